-- squeezed
-- made by pp.py (wip/tools) out of the translation; Lean checks it
import Derived.Test.YtojncbpeeboooaaX0
import Derived.Test.YtojncbpeeboooaaX2
import Derived.Test.YtojncbpeeboooaaX4
import Derived.Test.YtojncbpeeboooaaX6
import Derived.Test.YtojncbpeeboooaaX7
namespace Go.Proofs.Ytojncbpeeboooaa.X
open Go.RowKit Go.Proofs.YtojncbpeeboooaaW.PrintWords Go.Proofs.YtojncbpeeboooaaW.PrintLast Go.Proofs.YtojncbpeeboooaaW.PrintMore
attribute [local go_sem] max2_int min2_int max_two min_two max_three min_three max_four min_four   -- for this text's walks alone
set_option linter.unusedVariables false
set_option linter.unusedSimpArgs false


/-! ### impl_BestSource: function 24 -/
def impl_BestSource.j0 : Nat → Bool → List (S58) → List (S124) → Option (List Int × Int × Int × Int)
 | 0, _, _, _ => none
 | k + 1, x9, x273000, x274000 => if x9 = true then (some (([] : List Int), 0, 0, 2)) else ((impl_SourcesOK.f k x273000 x274000).bind fun t277 => (if t277 = true then ((impl_BestSource_1.f k ([] : List Int) x274000 x273000 false ([] : List Int) 0 0).bind fun bt281 => (if bt281.1 = true then (some (bt281.2.1, bt281.2.2.1, bt281.2.2.2, 0)) else (some (([] : List Int), 0, 0, 8)))) else (some (([] : List Int), 0, 0, 1))))
def impl_BestSource.f (k : Nat) (l0 : List (S58)) (l1 : List (S124)) : Option (List Int × Int × Int × Int) := (impl_Source.f l0).bind fun t275 => (if t275 = true then ((impl_Stocked_79.f l1).bind fun t276 => (impl_BestSource.j0 k (!t276) l0 l1)) else (impl_BestSource.j0 k true l0 l1))
theorem impl_BestSource.mono_l : ∀ k, (∀ y0 y1 y2, LeO (impl_BestSource.j0 k y0 y1 y2) (impl_BestSource.j0 (k + 1) y0 y1 y2))
 | 0 => fun _ _ _ r h => by simp [impl_BestSource.j0] at h
 | k + 1 => by
  have ih0 := impl_BestSource.mono_l k
  ·intro y0 y1 y2
   unfold impl_BestSource.j0
   repeat' first
   | (with_reducible exact ih0 _ _ _)
   | (with_reducible exact impl_BestSource_1.mono _ _ _ _ _ _ _ _)
   | (with_reducible exact impl_SourcesOK.mono _ _ _)
   | (with_reducible exact LeO.refl _)
   | (with_reducible exact LeO.none _)
   | (with_reducible refine LeO.ite ?_ ?_)
   | (with_reducible refine LeO.bind ?_ (fun _ => ?_))
   | exact ih0 _ _ _
   | exact impl_BestSource_1.mono _ _ _ _ _ _ _ _
   | exact impl_SourcesOK.mono _ _ _
   | exact LeO.none _
   | refine LeO.ite ?_ ?_
   | refine LeO.bind ?_ (fun _ => ?_)
theorem impl_BestSource.mono : ∀ a0 a1 k, LeO (impl_BestSource.f k a0 a1) (impl_BestSource.f (k + 1) a0 a1) := by
 intro a0 a1 k
 have ih0 := impl_BestSource.mono_l k
 unfold impl_BestSource.f
 repeat' first
   | (with_reducible exact ih0 _ _ _)
   | (with_reducible exact impl_BestSource_1.mono _ _ _ _ _ _ _ _)
   | (with_reducible exact impl_SourcesOK.mono _ _ _)
   | (with_reducible exact LeO.refl _)
   | (with_reducible exact LeO.none _)
   | (with_reducible refine LeO.ite ?_ ?_)
   | (with_reducible refine LeO.bind ?_ (fun _ => ?_))
   | exact ih0 _ _ _
   | exact impl_BestSource_1.mono _ _ _ _ _ _ _ _
   | exact impl_SourcesOK.mono _ _ _
   | exact LeO.none _
   | refine LeO.ite ?_ ?_
   | refine LeO.bind ?_ (fun _ => ?_)
set_option maxHeartbeats 64000000 in
set_option maxRecDepth 100000 in
theorem impl_BestSource.calls (k : Nat) (A0 : Option Addr) (c0 : Nat) (l0 : List (S58)) (A1 : Option Addr) (c1 : Nat) (l1 : List (S124)) (r1 : List Int) (r2 : Int) (r3 : Int) (r4 : Int) (w : World) (hr0 : Kd.C k58 w A0 l0.length l0) (hc0 : l0.length ≤ c0) (hr1 : Kd.C k124 w A1 l1.length l1) (hc1 : l1.length ≤ c1) (h : impl_BestSource.f k l0 l1 = some (r1, r2, r3, r4)) :
  Calls Try.prog 24 #[.slice A0 l0.length c0, .slice A1 l1.length c1] w fun e w' => ∃ v0_ : Value, e = .returned (.tuple #[.agg #[v0_, .int .i64 r2, .int .i64 r3], .int .i64 r4]) ∧ Kd.R (Kd.int .i64) 3 w' w.heap.size (fun _ => True) v0_ r1 ∧ Below w.heap.size w w' := by
 have hu47 := Try.underlying47
 have hu48 := Try.underlying48
 have hu52 := Try.underlying52
 have hu4 := Try.underlying4
 have hu106 := Try.underlying106
 obtain ⟨HR0, HC0, HR1, HC1, HB⟩ := zD5 hr0 hc0 hr1 hc1 (Below.refl w.heap.size w)
 clear hr0 hc0 hr1 hc1
 have H : ((impl_Source.f l0).bind fun t275 => (if t275 = true then ((impl_Stocked_79.f l1).bind fun t276 => (impl_BestSource.j0 k (!t276) l0 l1)) else (impl_BestSource.j0 k true l0 l1))) = some (r1, r2, r3, r4) := h
 clear h
 have HC3 := za H
 clear H
 go_enter Try.func24, Try.ntmps24
 go_upto_region 1 with (first | ((with_reducible refine gate_dst (N := 2) rfl ?_); refine box_event ?hg (N := 2) ?hd (cs := #[.slice A0 l0.length c0]) (t := 47) ?hr ?_; (case hd => rfl); (case hg => rfl); (case hr => exact zH119); intro gb272 hg w4 hbox hb; have n_ := zA_ (za (zu zG102 hb)) (zA_ (za (hbox)) (zA_ (zN1 w.heap.size hg (zq zG102)) (zN1 w.heap.size hg (zq zG102)))); clear HB; obtain ⟨HB, BK272, GW272, GE272⟩ := n_; clear hb hbox hg) | ((with_reducible refine gate_dst (N := 3) rfl ?_); refine box_event ?hg (N := 3) ?hd (cs := #[.slice A1 l1.length c1]) (t := 48) ?hr ?_; (case hd => rfl); (case hg => rfl); (case hr => exact zH119); intro gb273 hg w5 hbox hb; have n_ := zA_ (za (zp (g := gb272) (o := .cells #[.slice A0 l0.length c0] 47 (0, 0)) zG104 hb)) (zA_ (za (zu zK214 hb)) (zA_ (za (hbox)) (zA_ (zN1 w.heap.size hg (zq zK214)) (zA_ (zN1 w.heap.size hg (zq zK214)) (zN2 hg (zz (g := gb272) (o := .cells #[.slice A0 l0.length c0] 47 (0, 0)) zG104)))))); clear BK272 HB; obtain ⟨BK272, HB, BK273, GW273, GE273, NB272_273, NB273_272⟩ := n_; clear hb hbox hg) | ((with_reducible refine gate_dst (N := 4) rfl ?_); refine box_event ?hg (N := 4) ?hd (cs := #[.slice none 0 0, .int .i64 0, .int .i64 0]) (t := 52) ?hr ?_; (case hd => rfl); (case hg => rfl); (case hr => exact zH119); intro gb274 hg w6 hbox hb; have n_ := zA_ (za (zp (g := gb272) (o := .cells #[.slice A0 l0.length c0] 47 (0, 0)) zG104 hb)) (zA_ (za (zp (g := gb273) (o := .cells #[.slice A1 l1.length c1] 48 (0, 0)) zG105 hb)) (zA_ (za (zu zK208 hb)) (zA_ (za (hbox)) (zA_ (zN1 w.heap.size hg (zq zK208)) (zA_ (zN1 w.heap.size hg (zq zK208)) (zN3 hg (zz (g := gb272) (o := .cells #[.slice A0 l0.length c0] 47 (0, 0)) zG104) (zN2 hg (zz (g := gb273) (o := .cells #[.slice A1 l1.length c1] 48 (0, 0)) zG105)))))))); clear BK272 BK273 HB; obtain ⟨BK272, BK273, HB, BK274, GW274, GE274, NB272_274, NB274_272, NB273_274, NB274_273⟩ := n_; clear hb hbox hg))
 (try simp only [Act.put, List.setIfInBounds_toArray, List.set_cons_zero, List.set_cons_succ])
 go_cut [9] (fun v9 wc => ∃ (kq : Nat) (x9_2 : Bool), v9 = .bool x9_2 ∧ Aside0 (impl_BestSource.j0 kq x9_2 l0 l1 = some (r1, r2, r3, r4)) ∧ Aside0 (kq ≤ k) ∧ Aside0 (wc.heap[gb272]? = some (.cells #[(.slice A0 l0.length c0)] 47 (0, 0))) ∧ Aside0 (wc.heap[gb273]? = some (.cells #[(.slice A1 l1.length c1)] 48 (0, 0))) ∧ Aside0 (wc.heap[gb274]? = some (.cells #[(.slice none 0 0), .int .i64 0, .int .i64 0] 52 (0, 0))) ∧ Aside0 (Below w.heap.size w wc))
 case first =>
  have H := HC3.out
  clear HC3
  replace H := Option.bind_eq_some_iff.mp H
  obtain ⟨t275, A70, H⟩ := H
  replace H : (if t275 = true then ((impl_Stocked_79.f l1).bind fun t276 => (impl_BestSource.j0 k (!t276) l0 l1)) else (impl_BestSource.j0 k true l0 l1)) = some (r1, r2, r3, r4) := H
  have A7 := za A70
  clear A70
  by_cases c8 : t275 = true
  rotate_left
  ·replace c8 := Bool.eq_false_iff.mpr c8
   subst c8
   have H1 : (impl_BestSource.j0 k true l0 l1) = some (r1, r2, r3, r4) := by rw [if_neg (show ¬ (false = true) by decide)] at H; exact H
   clear H
   have H := H1
   clear H1
   have H' := za H
   clear H
   have hnb15 := NB272_273.out
   have hnc15 := NB273_272.out
   have hnb16 := NB272_274.out
   have hnc16 := NB274_272.out
   obtain ⟨hcz17_0, hfz17_0⟩ := zB1 BK272.out
   go_wp2_with (first | ((with_reducible refine gate_callee (f := 78) rfl ?_); refine goesL_ (some 11) rfl rfl Try.func78 zG128 rfl #[.slice A0 l0.length c0] rfl zG97 ?_; (with_reducible refine (impl_Source.calls _ _ l0 false _ ?side1 ?side2 A7.out).mono ?_); (case side1 => exact zH67); (case side2 => exact zH128); rintro e w' ⟨rfl, ⟨nd, rfl⟩⟩; refine ⟨_, rfl, ?_⟩))
   go_meet
   case rel => exact ⟨_, (true), zG127, H', ⟨zH120⟩, ⟨by (with_reducible repeat (first | refine zc ?_ _ | refine zd ?_ | refine zb ?_ _)); exact BK272.out⟩, ⟨by (with_reducible repeat (first | refine zc ?_ _ | refine zd ?_ | refine zb ?_ _)); exact BK273.out⟩, ⟨by (with_reducible repeat (first | refine zc ?_ _ | refine zd ?_ | refine zb ?_ _)); exact BK274.out⟩, ⟨zH40⟩⟩
  subst c8
  have H1 : ((impl_Stocked_79.f l1).bind fun t276 => (impl_BestSource.j0 k (!t276) l0 l1)) = some (r1, r2, r3, r4) := by rw [if_pos rfl] at H; exact H
  clear H
  have H := H1
  clear H1
  replace H := Option.bind_eq_some_iff.mp H
  obtain ⟨t276, A90, H⟩ := H
  replace H : (impl_BestSource.j0 k (!t276) l0 l1) = some (r1, r2, r3, r4) := H
  have A9 := za A90
  clear A90
  have H' := za H
  clear H
  have hnb10 := NB272_273.out
  have hnc10 := NB273_272.out
  have hnb11 := NB272_274.out
  have hnc11 := NB274_272.out
  obtain ⟨hcz12_0, hfz12_0⟩ := zB1 BK272.out
  go_wp2_with (first | ((with_reducible refine gate_callee (f := 78) rfl ?_); refine goesL_ (some 11) rfl rfl Try.func78 zG128 rfl #[.slice A0 l0.length c0] rfl zG97 ?_; (with_reducible refine (impl_Source.calls _ _ l0 true _ ?side1 ?side2 A7.out).mono ?_); (case side1 => exact zH67); (case side2 => exact zH128); rintro e w' ⟨rfl, ⟨nd, rfl⟩⟩; refine ⟨_, rfl, ?_⟩; have hnb13 := NB273_274.out; have hnc13 := NB274_273.out; obtain ⟨hcz14_0, hfz14_0⟩ := zB1 BK273.out) | (go_at_call 79; (with_reducible refine (impl_Stocked_79.calls _ _ l1 t276 _ ?side1 ?side2 A9.out).mono ?_); (case side1 => repeat (first | exact (zai HR1.out zG91) | (with_reducible refine zab ?_ _) | (with_reducible refine zac ?_ _) | (with_reducible refine zad ?_))); (case side2 => exact zH127); rintro e w' ⟨rfl, ⟨nd, rfl⟩⟩))
  go_meet
  case rel => exact ⟨_, (!t276), zG127, H', ⟨zH120⟩, ⟨by (with_reducible repeat (first | refine zc ?_ _ | refine zd ?_ | refine zb ?_ _)); exact BK272.out⟩, ⟨by (with_reducible repeat (first | refine zc ?_ _ | refine zd ?_ | refine zb ?_ _)); exact BK273.out⟩, ⟨by (with_reducible repeat (first | refine zc ?_ _ | refine zd ?_ | refine zb ?_ _)); exact BK274.out⟩, ⟨zH40⟩⟩
 case rest =>
  clear HC3
  try clear c1
  try clear c8
  try clear hcz12_0
  try clear hcz14_0
  try clear hcz17_0
  try clear hfz12_0
  try clear hfz14_0
  try clear hfz17_0
  obtain ⟨kq, x9_2, rfl, HA, HJ2, BK272, BK273, BK274, HB⟩ := hcut
  cases kq with
  | zero => exact absurd HA.out (by simp [impl_BestSource.j0])
  | succ kj2 =>
   have H := HA.out
   clear HA
   simp only [impl_BestSource.j0] at H
   by_cases c18 : x9_2 = true
   ·subst c18
    have H1 : (some (([] : List Int), 0, 0, 2)) = some (r1, r2, r3, r4) := by rw [if_pos rfl] at H; exact H
    clear H
    have H := H1
    clear H1
    simp only [Option.some.injEq, Prod.mk.injEq] at H
    obtain ⟨rfl, rfl, rfl, rfl⟩ := H
    have hnb19 := NB274_272.out
    have hnc19 := NB272_274.out
    have hnb20 := NB274_273.out
    have hnc20 := NB273_274.out
    obtain ⟨hcz21_0, hcz21_1, hcz21_2, hfz21_0, hfz21_1, hfz21_2⟩ := zB3 BK274.out
    go_wp2
    refine bodyPost_ret (results_ct rfl _ _ gb274 52 #[.slice none 0 0, .int .i64 0, .int .i64 0] (0, 0) _ rfl zK137 Try.underlying52 rfl zG128) rfl ?_
    exact zH7
   replace c18 := Bool.eq_false_iff.mpr c18
   subst c18
   have H1 : ((impl_SourcesOK.f kj2 l0 l1).bind fun t277 => (if t277 = true then ((impl_BestSource_1.f kj2 ([] : List Int) l1 l0 false ([] : List Int) 0 0).bind fun bt281 => (if bt281.1 = true then (some (bt281.2.1, bt281.2.2.1, bt281.2.2.2, 0)) else (some (([] : List Int), 0, 0, 8)))) else (some (([] : List Int), 0, 0, 1)))) = some (r1, r2, r3, r4) := by rw [if_neg (show ¬ (false = true) by decide)] at H; exact H
   clear H
   have H := H1
   clear H1
   replace H := Option.bind_eq_some_iff.mp H
   obtain ⟨t277, A220, H⟩ := H
   replace H : (if t277 = true then ((impl_BestSource_1.f kj2 ([] : List Int) l1 l0 false ([] : List Int) 0 0).bind fun bt281 => (if bt281.1 = true then (some (bt281.2.1, bt281.2.2.1, bt281.2.2.2, 0)) else (some (([] : List Int), 0, 0, 8)))) else (some (([] : List Int), 0, 0, 1))) = some (r1, r2, r3, r4) := H
   have A22 := za A220
   clear A220
   by_cases c23 : t277 = true
   rotate_left
   ·replace c23 := Bool.eq_false_iff.mpr c23
    subst c23
    have H1 : (some (([] : List Int), 0, 0, 1)) = some (r1, r2, r3, r4) := by rw [if_neg (show ¬ (false = true) by decide)] at H; exact H
    clear H
    have H := H1
    clear H1
    simp only [Option.some.injEq, Prod.mk.injEq] at H
    obtain ⟨rfl, rfl, rfl, rfl⟩ := H
    have hnb86 := NB272_273.out
    have hnc86 := NB273_272.out
    have hnb87 := NB272_274.out
    have hnc87 := NB274_272.out
    obtain ⟨hcz88_0, hfz88_0⟩ := zB1 BK272.out
    have hnb89 := NB273_274.out
    have hnc89 := NB274_273.out
    obtain ⟨hcz90_0, hfz90_0⟩ := zB1 BK273.out
    go_wp2_with (first | ((with_reducible refine gate_callee (f := 26) rfl ?_); refine goesL_ (some 22) rfl rfl Try.func26 zG128 rfl #[.slice A0 l0.length c0, .slice A1 l1.length c1] rfl zG97 ?_; (with_reducible refine (impl_SourcesOK.calls kj2 _ _ l0 _ _ l1 false _ ?side1 ?side2 ?side3 ?side4 A22.out).mono ?_); (case side1 => exact zH67); (case side2 => exact zH128); (case side3 => exact zH66); (case side4 => exact zH127); rintro e w91 ⟨rfl, hb⟩; refine ⟨_, rfl, ?_⟩; have n_ := zA_ (za (zp (g := gb272) (o := .cells #[.slice A0 l0.length c0] 47 (0, 0)) zG104 hb)) (zA_ (za (zp (g := gb273) (o := .cells #[.slice A1 l1.length c1] 48 (0, 0)) zG105 hb)) (zA_ (za (zp (g := gb274) (o := .cells #[.slice none 0 0, .int .i64 0, .int .i64 0] 52 (0, 0)) zG106 hb)) (za (zu zG91 hb)))); clear BK272 BK273 BK274 HB; obtain ⟨BK272, BK273, BK274, HB⟩ := n_; (try clear hb); obtain ⟨hcz92_0, hcz92_1, hcz92_2, hfz92_0, hfz92_1, hfz92_2⟩ := zB3 BK274.out))
    refine bodyPost_ret (results_ct rfl _ _ gb274 52 #[.slice none 0 0, .int .i64 0, .int .i64 0] (0, 0) _ rfl zK137 Try.underlying52 rfl zG128) rfl ?_
    exact zH7

   subst c23
   have H1 : ((impl_BestSource_1.f kj2 ([] : List Int) l1 l0 false ([] : List Int) 0 0).bind fun bt281 => (if bt281.1 = true then (some (bt281.2.1, bt281.2.2.1, bt281.2.2.2, 0)) else (some (([] : List Int), 0, 0, 8)))) = some (r1, r2, r3, r4) := by rw [if_pos rfl] at H; exact H
   clear H
   have H := H1
   clear H1
   replace H := Option.bind_eq_some_iff.mp H
   obtain ⟨⟨t281, t282, t285, t286⟩, A240, H⟩ := H
   replace H : (if t281 = true then (some (t282, t285, t286, 0)) else (some (([] : List Int), 0, 0, 8))) = some (r1, r2, r3, r4) := H
   have A24 := za A240
   clear A240
   by_cases c25 : t281 = true
   ·subst c25
    have H1 : (some (t282, t285, t286, 0)) = some (r1, r2, r3, r4) := by rw [if_pos rfl] at H; exact H
    clear H
    have H := H1
    clear H1
    simp only [Option.some.injEq, Prod.mk.injEq] at H
    obtain ⟨rfl, rfl, rfl, rfl⟩ := H
    have hnb26 := NB272_273.out
    have hnc26 := NB273_272.out
    have hnb27 := NB272_274.out
    have hnc27 := NB274_272.out
    obtain ⟨hcz28_0, hfz28_0⟩ := zB1 BK272.out
    have hnb29 := NB273_274.out
    have hnc29 := NB274_273.out
    obtain ⟨hcz30_0, hfz30_0⟩ := zB1 BK273.out
    go_wp2_with (first | ((with_reducible refine gate_callee (f := 26) rfl ?_); refine goesL_ (some 22) rfl rfl Try.func26 zG128 rfl #[.slice A0 l0.length c0, .slice A1 l1.length c1] rfl zG97 ?_; (with_reducible refine (impl_SourcesOK.calls kj2 _ _ l0 _ _ l1 true _ ?side1 ?side2 ?side3 ?side4 A22.out).mono ?_); (case side1 => exact zH67); (case side2 => exact zH128); (case side3 => exact zH66); (case side4 => exact zH127); rintro e w31 ⟨rfl, hb⟩; refine ⟨_, rfl, ?_⟩; have n_ := zA_ (za (zp (g := gb272) (o := .cells #[.slice A0 l0.length c0] 47 (0, 0)) zG104 hb)) (zA_ (za (zp (g := gb273) (o := .cells #[.slice A1 l1.length c1] 48 (0, 0)) zG105 hb)) (zA_ (za (zp (g := gb274) (o := .cells #[.slice none 0 0, .int .i64 0, .int .i64 0] 52 (0, 0)) zG106 hb)) (za (zu zG91 hb)))); clear BK272 BK273 BK274 HB; obtain ⟨BK272, BK273, BK274, HB⟩ := n_; (try clear hb)) | ((with_reducible refine gate_dst (N := 6) rfl ?_); refine box_event ?hg (N := 6) ?hd (cs := #[.slice none 0 0, .int .i64 0, .int .i64 0]) (t := 52) ?hr ?_; (case hd => rfl); (case hg => rfl); (case hr => exact zH119); intro gb278 hg w32 hbox hb; have n_ := zA_ (za (zp (g := gb272) (o := .cells #[.slice A0 l0.length c0] 47 (0, 0)) zG104 hb)) (zA_ (za (zp (g := gb273) (o := .cells #[.slice A1 l1.length c1] 48 (0, 0)) zG105 hb)) (zA_ (za (zp (g := gb274) (o := .cells #[.slice none 0 0, .int .i64 0, .int .i64 0] 52 (0, 0)) zG106 hb)) (zA_ (za (zu zG91 hb)) (zA_ (za (hbox)) (zA_ (zN1 w.heap.size hg (zq zG91)) (zA_ (zN1 w.heap.size hg (zq zG91)) (zN3 hg (zz (g := gb272) (o := .cells #[.slice A0 l0.length c0] 47 (0, 0)) zG104) (zN3 hg (zz (g := gb273) (o := .cells #[.slice A1 l1.length c1] 48 (0, 0)) zG105) (zN2 hg (zz (g := gb274) (o := .cells #[.slice none 0 0, .int .i64 0, .int .i64 0] 52 (0, 0)) zG106)))))))))); clear BK272 BK273 BK274 HB; obtain ⟨BK272, BK273, BK274, HB, BK278, GW278, GE278, NB272_278, NB278_272, NB273_278, NB278_273, NB274_278, NB278_274⟩ := n_; clear hb hbox hg) | ((with_reducible refine gate_dst (N := 7) rfl ?_); refine box_event ?hg (N := 7) ?hd (cs := #[.bool false]) (t := 4) ?hr ?_; (case hd => rfl); (case hg => rfl); (case hr => exact zH119); intro gb279 hg w33 hbox hb; have n_ := zA_ (za (zp (g := gb272) (o := .cells #[.slice A0 l0.length c0] 47 (0, 0)) zG104 hb)) (zA_ (za (zp (g := gb273) (o := .cells #[.slice A1 l1.length c1] 48 (0, 0)) zG105 hb)) (zA_ (za (zp (g := gb274) (o := .cells #[.slice none 0 0, .int .i64 0, .int .i64 0] 52 (0, 0)) zG106 hb)) (zA_ (za (zp (g := gb278) (o := .cells #[.slice none 0 0, .int .i64 0, .int .i64 0] 52 (0, 0)) zK231 hb)) (zA_ (za (zu zK202 hb)) (zA_ (za (hbox)) (zA_ (zN1 w.heap.size hg (zq zK202)) (zA_ (zN1 w.heap.size hg (zq zK202)) (zN3 hg (zz (g := gb272) (o := .cells #[.slice A0 l0.length c0] 47 (0, 0)) zG104) (zN3 hg (zz (g := gb273) (o := .cells #[.slice A1 l1.length c1] 48 (0, 0)) zG105) (zN3 hg (zz (g := gb274) (o := .cells #[.slice none 0 0, .int .i64 0, .int .i64 0] 52 (0, 0)) zG106) (zN2 hg (zz (g := gb278) (o := .cells #[.slice none 0 0, .int .i64 0, .int .i64 0] 52 (0, 0)) zK231)))))))))))); clear BK272 BK273 BK274 BK278 HB; obtain ⟨BK272, BK273, BK274, BK278, HB, BK279, GW279, GE279, NB272_279, NB279_272, NB273_279, NB279_273, NB274_279, NB279_274, NB278_279, NB279_278⟩ := n_; clear hb hbox hg; have hnb34 := NB278_272.out; have hnc34 := NB272_278.out; have hnb35 := NB278_273.out; have hnc35 := NB273_278.out; have hnb36 := NB278_274.out; have hnc36 := NB274_278.out; have hnb37 := NB278_279.out; have hnc37 := NB279_278.out; obtain ⟨hcz38_0, hcz38_1, hcz38_2, hfz38_0, hfz38_1, hfz38_2⟩ := zB3 BK278.out; have hnb39 := NB279_272.out; have hnc39 := NB272_279.out; have hnb40 := NB279_273.out; have hnc40 := NB273_279.out; have hnb41 := NB279_274.out; have hnc41 := NB274_279.out; obtain ⟨hcz42_0, hfz42_0⟩ := zB1 BK279.out) | ((with_reducible refine gate_dst (N := 8) rfl ?_); refine box_event ?hg (N := 8) ?hd (cs := #[.nilFunc]) (t := 106) ?hr ?_; (case hd => rfl); (case hg => rfl); (case hr => exact zH119); intro gb280 hg w43 hbox hb; have n_ := zA_ (za (zp (g := gb272) (o := .cells #[.slice A0 l0.length c0] 47 (0, 0)) zK142 hb)) (zA_ (za (zp (g := gb273) (o := .cells #[.slice A1 l1.length c1] 48 (0, 0)) zK143 hb)) (zA_ (za (zp (g := gb274) (o := .cells #[.slice none 0 0, .int .i64 0, .int .i64 0] 52 (0, 0)) zK144 hb)) (zA_ (za (zp (g := gb278) (o := .cells #[.slice none 0 0, .int .i64 0, .int .i64 0] 52 (0, 0)) zK129 hb)) (zA_ (za (zp (g := gb279) (o := .cells #[.bool false] 4 (0, 0)) zK141 hb)) (zA_ (za (zu zK200 hb)) (zA_ (za (hbox)) (zA_ (zN1 w.heap.size hg (zq zK200)) (zA_ (zN1 w.heap.size hg (zq zK200)) (zN3 hg (zz (g := gb272) (o := .cells #[.slice A0 l0.length c0] 47 (0, 0)) zK142) (zN3 hg (zz (g := gb273) (o := .cells #[.slice A1 l1.length c1] 48 (0, 0)) zK143) (zN3 hg (zz (g := gb274) (o := .cells #[.slice none 0 0, .int .i64 0, .int .i64 0] 52 (0, 0)) zK144) (zN3 hg (zz (g := gb278) (o := .cells #[.slice none 0 0, .int .i64 0, .int .i64 0] 52 (0, 0)) zK129) (zN2 hg (zz (g := gb279) (o := .cells #[.bool false] 4 (0, 0)) zK141)))))))))))))); clear BK272 BK273 BK274 BK278 BK279 HB; obtain ⟨BK272, BK273, BK274, BK278, BK279, HB, BK280, GW280, GE280, NB272_280, NB280_272, NB273_280, NB280_273, NB274_280, NB280_274, NB278_280, NB280_278, NB279_280, NB280_279⟩ := n_; clear hb hbox hg; have hnb44 := NB280_272.out; have hnc44 := NB272_280.out; have hnb45 := NB280_273.out; have hnc45 := NB273_280.out; have hnb46 := NB280_274.out; have hnc46 := NB274_280.out; have hnb47 := NB280_278.out; have hnc47 := NB278_280.out; have hnb48 := NB280_279.out; have hnc48 := NB279_280.out; obtain ⟨hcz49_0, hfz49_0⟩ := zB1 BK280.out) | ((with_reducible refine gate_store (t := 106) (p := 8) rfl ?_); refine store_event (t := 106) (p := 8) (v := ?vo_w50) (w1 := (w43.setCell ⟨gb280, 0, none⟩ (.func (.func 80) #[] #[.pointer (some ⟨gb273, 0, none⟩), .pointer (some ⟨gb272, 0, none⟩), .pointer (some ⟨gb279, 0, none⟩), .pointer (some ⟨gb278, 0, none⟩), .pointer (some ⟨gb280, 0, none⟩)]))) ?hg ?ho ?hn ?hr ?_; (case ho => rfl); (case hg => rfl); (case hn => rfl); (case hr => exact zH119); intro w50 hw; have n0_ : Aside0 (w50.heap[gb272]? = some (.cells #[.slice A0 l0.length c0] 47 (0, 0))) := ⟨zK195⟩; have n1_ : Aside0 (w50.heap[gb273]? = some (.cells #[.slice A1 l1.length c1] 48 (0, 0))) := ⟨zK196⟩; have n2_ : Aside0 (w50.heap[gb274]? = some (.cells #[.slice none 0 0, .int .i64 0, .int .i64 0] 52 (0, 0))) := ⟨zK197⟩; have n3_ : Aside0 (w50.heap[gb278]? = some (.cells #[.slice none 0 0, .int .i64 0, .int .i64 0] 52 (0, 0))) := ⟨zK198⟩; have n4_ : Aside0 (w50.heap[gb279]? = some (.cells #[.bool false] 4 (0, 0))) := ⟨zK199⟩; have n5_ : Aside0 (w50.heap[gb280]? = some (.cells #[.func (.func 80) #[] #[.pointer (some ⟨gb273, 0, none⟩), .pointer (some ⟨gb272, 0, none⟩), .pointer (some ⟨gb279, 0, none⟩), .pointer (some ⟨gb278, 0, none⟩), .pointer (some ⟨gb280, 0, none⟩)]] 106 (0, 0))) := ⟨zK194⟩; have n6_ : Aside0 (Below w.heap.size w w50) := ⟨zK191⟩; clear hw BK272; clear BK273 BK274; clear BK278 BK279; clear BK280 HB; have BK272 := n0_; have BK273 := n1_; have BK274 := n2_; have BK278 := n3_; have BK279 := n4_; have BK280 := n5_; have HB := n6_; clear n0_ n1_ n2_ n3_ n4_ n5_ n6_; obtain ⟨hcz51_0, hfz51_0⟩ := zB1 BK280.out) | (go_at_call 80; (refine (impl_BestSource_1.calls kj2 _ _ ([] : List Int) gb273 A1 c1 l1 gb272 A0 c0 l0 gb279 false gb278 (fun k_ => some k_ = (.slice none 0 0 : Value).ownBlock) (.slice none 0 0) ([] : List Int) 0 0 gb280 true t282 t285 t286 w _ ?side1 ?side2 ?side3 ?side4 ?side5 ?side6 ?side7 ?side8 ?side9 ?side10 ?side11 ?side12 ?side13 ?side14 ?side15 ?side16 ?side17 ?side18 ?side19 ?side20 ?side21 ?side22 ?side23 ?side24 ?side25 A24.out).mono ?_); (case side1 => exact zH25); (case side2 => exact Kd.C_kept_nil); (case side3 => exact Nat.le_refl _); (case side4 => exact zG105); (case side5 => exact zH4); (case side6 => exact zH127); (case side7 => exact zG104); (case side8 => exact NB273_272.out); (case side9 => exact zH5); (case side10 => exact zH128); (case side11 => exact zH91); (case side12 => exact GE279.out); (case side13 => exact NB273_279.out); (case side14 => exact NB272_279.out); (case side15 => exact zH90); (case side16 => exact GE278.out); (case side17 => exact NB273_278.out); (case side18 => exact NB272_278.out); (case side19 => exact NB279_278.out); (case side20 => exact zba _ _ _ _ _); (case side21 => exact zH92); (case side22 => exact NB273_280.out); (case side23 => exact NB272_280.out); (case side24 => exact NB279_280.out); (case side25 => exact NB278_280.out); rintro e w52 ⟨v283, rfl, ho0, hz0, hz1, hb, hkp⟩; have n_ := zA_ (za (zbn zG104 hkp (fun hs_ => Or.elim hs_ (fun hs_ => Or.elim hs_ (fun hs_ => (fun e_ => by simp [Value.ownBlock] at e_) hs_) (fun e_ => NB272_279.out e_)) (fun e_ => NB272_278.out e_)))) (zA_ (za (zbn zG105 hkp (fun hs_ => Or.elim hs_ (fun hs_ => Or.elim hs_ (fun hs_ => (fun e_ => by simp [Value.ownBlock] at e_) hs_) (fun e_ => NB273_279.out e_)) (fun e_ => NB273_278.out e_)))) (zA_ (za (zbn zG106 hkp (fun hs_ => Or.elim hs_ (fun hs_ => Or.elim hs_ (fun hs_ => (fun e_ => by simp [Value.ownBlock] at e_) hs_) (fun e_ => NB274_279.out e_)) (fun e_ => NB274_278.out e_)))) (zA_ (za (hz1)) (zA_ (za (hz0)) (zA_ (za (zbn (by (with_reducible repeat (first | refine zc ?_ _ | refine zd ?_ | refine zb ?_ _)); exact BK280.out) hkp (fun hs_ => Or.elim hs_ (fun hs_ => Or.elim hs_ (fun hs_ => (fun e_ => by simp [Value.ownBlock] at e_) hs_) (fun e_ => NB280_279.out e_)) (fun e_ => NB280_278.out e_)))) (zA_ (za (zs (ok' := fun k_ => True) ho0 (fun k_ hk_ => trivial))) (za (hb)))))))); clear BK272 BK273 BK274 BK278 BK279 BK280 HB; obtain ⟨BK272, BK273, BK274, BK278, BK279, BK280, HO284, HB⟩ := n_; (try clear hb); (try clear hkp); (try clear ho0); (try clear hz0); (try clear hz1); obtain ⟨hcz53_0, hfz53_0⟩ := zB1 BK279.out; obtain ⟨hcz54_0, hcz54_1, hcz54_2, hfz54_0, hfz54_1, hfz54_2⟩ := zB3 BK278.out; obtain ⟨Ao55, co55, eo55⟩ := zan HO284.out; subst eo55; obtain ⟨hcz56_0, hcz56_1, hcz56_2, hfz56_0, hfz56_1, hfz56_2⟩ := zB3 BK274.out))
    refine bodyPost_ret (results_ct rfl _ _ gb274 52 #[.slice Ao55 t282.length co55, .int .i64 t285, .int .i64 t286] (0, 0) _ rfl (by (with_reducible repeat (first | refine zc ?_ _ | refine zd ?_ | refine zb ?_ _)); refine zw (cs := #[.slice Ao55 t282.length co55, .int .i64 t285, .int .i64 0]) ?_ 2 _ rfl; (with_reducible repeat (first | refine zc ?_ _ | refine zd ?_ | refine zb ?_ _)); refine zw (cs := #[.slice Ao55 t282.length co55, .int .i64 0, .int .i64 0]) ?_ 1 _ rfl; (with_reducible repeat (first | refine zc ?_ _ | refine zd ?_ | refine zb ?_ _)); refine zw (cs := #[.slice none 0 0, .int .i64 0, .int .i64 0]) ?_ 0 _ rfl; (with_reducible repeat (first | refine zc ?_ _ | refine zd ?_ | refine zb ?_ _)); exact BK274.out) Try.underlying52 rfl zG128) rfl ?_
    exact ⟨_, zH111, by (with_reducible repeat (first | apply zj | apply zk | apply zl)); exact zs (zo (p := ⟨gb274, 2, none⟩) (zo (p := ⟨gb274, 1, none⟩) (zo (p := ⟨gb274, 0, none⟩) (zt HO284.out BK274.out zG129) (fun _ hk => hk.2) (.slice Ao55 t282.length co55)) (fun _ hk => hk.2) (.int .i64 t285)) (fun _ hk => hk.2) (.int .i64 t286)) (fun _ hk => trivial), zH24⟩
   replace c25 := Bool.eq_false_iff.mpr c25
   subst c25
   have H1 : (some (([] : List Int), 0, 0, 8)) = some (r1, r2, r3, r4) := by rw [if_neg (show ¬ (false = true) by decide)] at H; exact H
   clear H
   have H := H1
   clear H1
   simp only [Option.some.injEq, Prod.mk.injEq] at H
   obtain ⟨rfl, rfl, rfl, rfl⟩ := H
   have hnb57 := NB272_273.out
   have hnc57 := NB273_272.out
   have hnb58 := NB272_274.out
   have hnc58 := NB274_272.out
   obtain ⟨hcz59_0, hfz59_0⟩ := zB1 BK272.out
   have hnb60 := NB273_274.out
   have hnc60 := NB274_273.out
   obtain ⟨hcz61_0, hfz61_0⟩ := zB1 BK273.out
   go_wp2_with (first | ((with_reducible refine gate_callee (f := 26) rfl ?_); refine goesL_ (some 22) rfl rfl Try.func26 zG128 rfl #[.slice A0 l0.length c0, .slice A1 l1.length c1] rfl zG97 ?_; (with_reducible refine (impl_SourcesOK.calls kj2 _ _ l0 _ _ l1 true _ ?side1 ?side2 ?side3 ?side4 A22.out).mono ?_); (case side1 => exact zH67); (case side2 => exact zH128); (case side3 => exact zH66); (case side4 => exact zH127); rintro e w62 ⟨rfl, hb⟩; refine ⟨_, rfl, ?_⟩; have n_ := zA_ (za (zp (g := gb272) (o := .cells #[.slice A0 l0.length c0] 47 (0, 0)) zG104 hb)) (zA_ (za (zp (g := gb273) (o := .cells #[.slice A1 l1.length c1] 48 (0, 0)) zG105 hb)) (zA_ (za (zp (g := gb274) (o := .cells #[.slice none 0 0, .int .i64 0, .int .i64 0] 52 (0, 0)) zG106 hb)) (za (zu zG91 hb)))); clear BK272 BK273 BK274 HB; obtain ⟨BK272, BK273, BK274, HB⟩ := n_; (try clear hb)) | ((with_reducible refine gate_dst (N := 6) rfl ?_); refine box_event ?hg (N := 6) ?hd (cs := #[.slice none 0 0, .int .i64 0, .int .i64 0]) (t := 52) ?hr ?_; (case hd => rfl); (case hg => rfl); (case hr => exact zH119); intro gb278 hg w63 hbox hb; have n_ := zA_ (za (zp (g := gb272) (o := .cells #[.slice A0 l0.length c0] 47 (0, 0)) zG104 hb)) (zA_ (za (zp (g := gb273) (o := .cells #[.slice A1 l1.length c1] 48 (0, 0)) zG105 hb)) (zA_ (za (zp (g := gb274) (o := .cells #[.slice none 0 0, .int .i64 0, .int .i64 0] 52 (0, 0)) zG106 hb)) (zA_ (za (zu zG91 hb)) (zA_ (za (hbox)) (zA_ (zN1 w.heap.size hg (zq zG91)) (zA_ (zN1 w.heap.size hg (zq zG91)) (zN3 hg (zz (g := gb272) (o := .cells #[.slice A0 l0.length c0] 47 (0, 0)) zG104) (zN3 hg (zz (g := gb273) (o := .cells #[.slice A1 l1.length c1] 48 (0, 0)) zG105) (zN2 hg (zz (g := gb274) (o := .cells #[.slice none 0 0, .int .i64 0, .int .i64 0] 52 (0, 0)) zG106)))))))))); clear BK272 BK273 BK274 HB; obtain ⟨BK272, BK273, BK274, HB, BK278, GW278, GE278, NB272_278, NB278_272, NB273_278, NB278_273, NB274_278, NB278_274⟩ := n_; clear hb hbox hg) | ((with_reducible refine gate_dst (N := 7) rfl ?_); refine box_event ?hg (N := 7) ?hd (cs := #[.bool false]) (t := 4) ?hr ?_; (case hd => rfl); (case hg => rfl); (case hr => exact zH119); intro gb279 hg w64 hbox hb; have n_ := zA_ (za (zp (g := gb272) (o := .cells #[.slice A0 l0.length c0] 47 (0, 0)) zG104 hb)) (zA_ (za (zp (g := gb273) (o := .cells #[.slice A1 l1.length c1] 48 (0, 0)) zG105 hb)) (zA_ (za (zp (g := gb274) (o := .cells #[.slice none 0 0, .int .i64 0, .int .i64 0] 52 (0, 0)) zG106 hb)) (zA_ (za (zp (g := gb278) (o := .cells #[.slice none 0 0, .int .i64 0, .int .i64 0] 52 (0, 0)) zK231 hb)) (zA_ (za (zu zK202 hb)) (zA_ (za (hbox)) (zA_ (zN1 w.heap.size hg (zq zK202)) (zA_ (zN1 w.heap.size hg (zq zK202)) (zN3 hg (zz (g := gb272) (o := .cells #[.slice A0 l0.length c0] 47 (0, 0)) zG104) (zN3 hg (zz (g := gb273) (o := .cells #[.slice A1 l1.length c1] 48 (0, 0)) zG105) (zN3 hg (zz (g := gb274) (o := .cells #[.slice none 0 0, .int .i64 0, .int .i64 0] 52 (0, 0)) zG106) (zN2 hg (zz (g := gb278) (o := .cells #[.slice none 0 0, .int .i64 0, .int .i64 0] 52 (0, 0)) zK231)))))))))))); clear BK272 BK273 BK274 BK278 HB; obtain ⟨BK272, BK273, BK274, BK278, HB, BK279, GW279, GE279, NB272_279, NB279_272, NB273_279, NB279_273, NB274_279, NB279_274, NB278_279, NB279_278⟩ := n_; clear hb hbox hg; have hnb65 := NB278_272.out; have hnc65 := NB272_278.out; have hnb66 := NB278_273.out; have hnc66 := NB273_278.out; have hnb67 := NB278_274.out; have hnc67 := NB274_278.out; have hnb68 := NB278_279.out; have hnc68 := NB279_278.out; obtain ⟨hcz69_0, hcz69_1, hcz69_2, hfz69_0, hfz69_1, hfz69_2⟩ := zB3 BK278.out; have hnb70 := NB279_272.out; have hnc70 := NB272_279.out; have hnb71 := NB279_273.out; have hnc71 := NB273_279.out; have hnb72 := NB279_274.out; have hnc72 := NB274_279.out; obtain ⟨hcz73_0, hfz73_0⟩ := zB1 BK279.out) | ((with_reducible refine gate_dst (N := 8) rfl ?_); refine box_event ?hg (N := 8) ?hd (cs := #[.nilFunc]) (t := 106) ?hr ?_; (case hd => rfl); (case hg => rfl); (case hr => exact zH119); intro gb280 hg w74 hbox hb; have n_ := zA_ (za (zp (g := gb272) (o := .cells #[.slice A0 l0.length c0] 47 (0, 0)) zK142 hb)) (zA_ (za (zp (g := gb273) (o := .cells #[.slice A1 l1.length c1] 48 (0, 0)) zK143 hb)) (zA_ (za (zp (g := gb274) (o := .cells #[.slice none 0 0, .int .i64 0, .int .i64 0] 52 (0, 0)) zK144 hb)) (zA_ (za (zp (g := gb278) (o := .cells #[.slice none 0 0, .int .i64 0, .int .i64 0] 52 (0, 0)) zK129 hb)) (zA_ (za (zp (g := gb279) (o := .cells #[.bool false] 4 (0, 0)) zK141 hb)) (zA_ (za (zu zK200 hb)) (zA_ (za (hbox)) (zA_ (zN1 w.heap.size hg (zq zK200)) (zA_ (zN1 w.heap.size hg (zq zK200)) (zN3 hg (zz (g := gb272) (o := .cells #[.slice A0 l0.length c0] 47 (0, 0)) zK142) (zN3 hg (zz (g := gb273) (o := .cells #[.slice A1 l1.length c1] 48 (0, 0)) zK143) (zN3 hg (zz (g := gb274) (o := .cells #[.slice none 0 0, .int .i64 0, .int .i64 0] 52 (0, 0)) zK144) (zN3 hg (zz (g := gb278) (o := .cells #[.slice none 0 0, .int .i64 0, .int .i64 0] 52 (0, 0)) zK129) (zN2 hg (zz (g := gb279) (o := .cells #[.bool false] 4 (0, 0)) zK141)))))))))))))); clear BK272 BK273 BK274 BK278 BK279 HB; obtain ⟨BK272, BK273, BK274, BK278, BK279, HB, BK280, GW280, GE280, NB272_280, NB280_272, NB273_280, NB280_273, NB274_280, NB280_274, NB278_280, NB280_278, NB279_280, NB280_279⟩ := n_; clear hb hbox hg; have hnb75 := NB280_272.out; have hnc75 := NB272_280.out; have hnb76 := NB280_273.out; have hnc76 := NB273_280.out; have hnb77 := NB280_274.out; have hnc77 := NB274_280.out; have hnb78 := NB280_278.out; have hnc78 := NB278_280.out; have hnb79 := NB280_279.out; have hnc79 := NB279_280.out; obtain ⟨hcz80_0, hfz80_0⟩ := zB1 BK280.out) | ((with_reducible refine gate_store (t := 106) (p := 8) rfl ?_); refine store_event (t := 106) (p := 8) (v := ?vo_w81) (w1 := (w74.setCell ⟨gb280, 0, none⟩ (.func (.func 80) #[] #[.pointer (some ⟨gb273, 0, none⟩), .pointer (some ⟨gb272, 0, none⟩), .pointer (some ⟨gb279, 0, none⟩), .pointer (some ⟨gb278, 0, none⟩), .pointer (some ⟨gb280, 0, none⟩)]))) ?hg ?ho ?hn ?hr ?_; (case ho => rfl); (case hg => rfl); (case hn => rfl); (case hr => exact zH119); intro w81 hw; have n0_ : Aside0 (w81.heap[gb272]? = some (.cells #[.slice A0 l0.length c0] 47 (0, 0))) := ⟨zK195⟩; have n1_ : Aside0 (w81.heap[gb273]? = some (.cells #[.slice A1 l1.length c1] 48 (0, 0))) := ⟨zK196⟩; have n2_ : Aside0 (w81.heap[gb274]? = some (.cells #[.slice none 0 0, .int .i64 0, .int .i64 0] 52 (0, 0))) := ⟨zK197⟩; have n3_ : Aside0 (w81.heap[gb278]? = some (.cells #[.slice none 0 0, .int .i64 0, .int .i64 0] 52 (0, 0))) := ⟨zK198⟩; have n4_ : Aside0 (w81.heap[gb279]? = some (.cells #[.bool false] 4 (0, 0))) := ⟨zK199⟩; have n5_ : Aside0 (w81.heap[gb280]? = some (.cells #[.func (.func 80) #[] #[.pointer (some ⟨gb273, 0, none⟩), .pointer (some ⟨gb272, 0, none⟩), .pointer (some ⟨gb279, 0, none⟩), .pointer (some ⟨gb278, 0, none⟩), .pointer (some ⟨gb280, 0, none⟩)]] 106 (0, 0))) := ⟨zK194⟩; have n6_ : Aside0 (Below w.heap.size w w81) := ⟨zK191⟩; clear hw BK272; clear BK273 BK274; clear BK278 BK279; clear BK280 HB; have BK272 := n0_; have BK273 := n1_; have BK274 := n2_; have BK278 := n3_; have BK279 := n4_; have BK280 := n5_; have HB := n6_; clear n0_ n1_ n2_ n3_ n4_ n5_ n6_; obtain ⟨hcz82_0, hfz82_0⟩ := zB1 BK280.out) | (go_at_call 80; (refine (impl_BestSource_1.calls kj2 _ _ ([] : List Int) gb273 A1 c1 l1 gb272 A0 c0 l0 gb279 false gb278 (fun k_ => some k_ = (.slice none 0 0 : Value).ownBlock) (.slice none 0 0) ([] : List Int) 0 0 gb280 false t282 t285 t286 w _ ?side1 ?side2 ?side3 ?side4 ?side5 ?side6 ?side7 ?side8 ?side9 ?side10 ?side11 ?side12 ?side13 ?side14 ?side15 ?side16 ?side17 ?side18 ?side19 ?side20 ?side21 ?side22 ?side23 ?side24 ?side25 A24.out).mono ?_); (case side1 => exact zH25); (case side2 => exact Kd.C_kept_nil); (case side3 => exact Nat.le_refl _); (case side4 => exact zG105); (case side5 => exact zH4); (case side6 => exact zH127); (case side7 => exact zG104); (case side8 => exact NB273_272.out); (case side9 => exact zH5); (case side10 => exact zH128); (case side11 => exact zH91); (case side12 => exact GE279.out); (case side13 => exact NB273_279.out); (case side14 => exact NB272_279.out); (case side15 => exact zH90); (case side16 => exact GE278.out); (case side17 => exact NB273_278.out); (case side18 => exact NB272_278.out); (case side19 => exact NB279_278.out); (case side20 => exact zba _ _ _ _ _); (case side21 => exact zH92); (case side22 => exact NB273_280.out); (case side23 => exact NB272_280.out); (case side24 => exact NB279_280.out); (case side25 => exact NB278_280.out); rintro e w83 ⟨v283, rfl, ho0, hz0, hz1, hb, hkp⟩; have n_ := zA_ (za (zbn zG104 hkp (fun hs_ => Or.elim hs_ (fun hs_ => Or.elim hs_ (fun hs_ => (fun e_ => by simp [Value.ownBlock] at e_) hs_) (fun e_ => NB272_279.out e_)) (fun e_ => NB272_278.out e_)))) (zA_ (za (zbn zG105 hkp (fun hs_ => Or.elim hs_ (fun hs_ => Or.elim hs_ (fun hs_ => (fun e_ => by simp [Value.ownBlock] at e_) hs_) (fun e_ => NB273_279.out e_)) (fun e_ => NB273_278.out e_)))) (zA_ (za (zbn zG106 hkp (fun hs_ => Or.elim hs_ (fun hs_ => Or.elim hs_ (fun hs_ => (fun e_ => by simp [Value.ownBlock] at e_) hs_) (fun e_ => NB274_279.out e_)) (fun e_ => NB274_278.out e_)))) (zA_ (za (hz1)) (zA_ (za (hz0)) (zA_ (za (zbn (by (with_reducible repeat (first | refine zc ?_ _ | refine zd ?_ | refine zb ?_ _)); exact BK280.out) hkp (fun hs_ => Or.elim hs_ (fun hs_ => Or.elim hs_ (fun hs_ => (fun e_ => by simp [Value.ownBlock] at e_) hs_) (fun e_ => NB280_279.out e_)) (fun e_ => NB280_278.out e_)))) (zA_ (za (zs (ok' := fun k_ => True) ho0 (fun k_ hk_ => trivial))) (za (hb)))))))); clear BK272 BK273 BK274 BK278 BK279 BK280 HB; obtain ⟨BK272, BK273, BK274, BK278, BK279, BK280, HO284, HB⟩ := n_; (try clear hb); (try clear hkp); (try clear ho0); (try clear hz0); (try clear hz1); obtain ⟨hcz84_0, hfz84_0⟩ := zB1 BK279.out; obtain ⟨hcz85_0, hcz85_1, hcz85_2, hfz85_0, hfz85_1, hfz85_2⟩ := zB3 BK274.out))
   refine bodyPost_ret (results_ct rfl _ _ gb274 52 #[.slice none 0 0, .int .i64 0, .int .i64 0] (0, 0) _ rfl zK137 Try.underlying52 rfl zG128) rfl ?_
   exact ⟨_, zH111, zH87, zH24⟩
/-! ### impl_isList_int: function 63 -/
def impl_isList_int.f (l0 : List Int) : Option (Bool) := some (decide ((l0.length : Int) ≤ 4096))
set_option maxHeartbeats 64000000 in
set_option maxRecDepth 100000 in
theorem impl_isList_int.calls (A0 : Option Addr) (c0 : Nat) (l0 : List Int) (r : Bool) (w : World) (hr0 : Kd.C (Kd.int .i64) w A0 l0.length l0) (hc0 : l0.length ≤ c0) (h : impl_isList_int.f l0 = some r) :
  Calls Try.prog 63 #[.slice A0 l0.length c0] w fun e w' => e = .returned (.bool r) ∧ Drawn0 w w' := by
 obtain ⟨HR0, HC0⟩ := zD2 hr0 hc0
 clear hr0 hc0
 have H : (some (decide ((l0.length : Int) ≤ 4096))) = some r := h
 clear h
 obtain rfl := Option.some.inj H
 go_enter Try.func63, Try.ntmps63
 go_wp2
 go_ret
 exact zH89

/-! ### impl_areFrom_1: function 128 -/
def impl_areFrom_1.f (a0 : Int) (a1_0 : Int) (a2_0 : Int) : Option (Bool) := (impl_within.f a0 a1_0 a2_0).bind fun t287 => (some (!t287))
set_option maxHeartbeats 64000000 in
set_option maxRecDepth 100000 in
theorem impl_areFrom_1.calls (a0 : Int) (gc1_0 : Nat) (a1_0 : Int) (gc2_0 : Nat) (a2_0 : Int) (r : Bool) (w : World) (hk1_0 : w.heap[gc1_0]? = some (.cells #[.int .i64 a1_0] 3 (0, 0))) (hk2_0 : w.heap[gc2_0]? = some (.cells #[.int .i64 a2_0] 3 (0, 0))) (h : impl_areFrom_1.f a0 a1_0 a2_0 = some r) :
  Calls Try.prog 128 #[.int .i64 a0, .pointer (some ⟨gc1_0, 0, none⟩), .pointer (some ⟨gc2_0, 0, none⟩)] w fun e w' => e = .returned (.bool r) ∧ Drawn0 w w' := by
 obtain ⟨BK1, BK2⟩ := zD2 hk1_0 hk2_0
 clear hk1_0 hk2_0
 have H : ((impl_within.f a0 a1_0 a2_0).bind fun t287 => (some (!t287))) = some r := h
 clear h
 replace H := Option.bind_eq_some_iff.mp H
 obtain ⟨t287, A40, H⟩ := H
 replace H : (some (!t287)) = some r := H
 have A4 := za A40
 clear A40
 obtain rfl := Option.some.inj H
 obtain ⟨hcz5_0, hfz5_0⟩ := zB1 BK1.out
 obtain ⟨hcz6_0, hfz6_0⟩ := zB1 BK2.out
 go_enter Try.func128, Try.ntmps128
 go_wp2_with (first | ((with_reducible refine gate_callee (f := 88) rfl ?_); refine goesL_ (some 8) rfl rfl Try.func88 zG128 rfl #[.int .i64 a0, .int .i64 a1_0, .int .i64 a2_0] rfl zG97 ?_; (with_reducible refine (impl_within.calls a0 a1_0 a2_0 t287 _ A4.out).mono ?_); rintro e w' ⟨rfl, ⟨nd, rfl⟩⟩; refine ⟨_, rfl, ?_⟩))
 go_ret
 exact zH89

/-! ### slices_IndexFunc_at_impl_areFrom_1: function 500003 -/
def slices_IndexFunc_at_impl_areFrom_1.l0 : Nat → List Int → Int → Int → Int → Int → Option (Int)
 | 0, _, _, _, _, _ => none
 | k + 1, x0, x7, x8, x29000, x30000 => if x8 < x7 then (if 0 ≤ x8 then (if x8 < (x0.length : Int) then ((impl_areFrom_1.f (rd x0 x8) x29000 x30000).bind fun t289 => (if t289 = true then (some x8) else (slices_IndexFunc_at_impl_areFrom_1.l0 k x0 x7 (wrap64 (x8 + 1)) x29000 x30000))) else (none)) else (none)) else (some (-1))
def slices_IndexFunc_at_impl_areFrom_1.f (k : Nat) (l0 : List Int) (a1_0 : Int) (a1_1 : Int) : Option (Int) := slices_IndexFunc_at_impl_areFrom_1.l0 k l0 (l0.length : Int) 0 a1_0 a1_1
theorem slices_IndexFunc_at_impl_areFrom_1.mono_l : ∀ k, (∀ y0 y1 y2 y3 y4, LeO (slices_IndexFunc_at_impl_areFrom_1.l0 k y0 y1 y2 y3 y4) (slices_IndexFunc_at_impl_areFrom_1.l0 (k + 1) y0 y1 y2 y3 y4))
 | 0 => fun _ _ _ _ _ r h => by simp [slices_IndexFunc_at_impl_areFrom_1.l0] at h
 | k + 1 => by
  have ih0 := slices_IndexFunc_at_impl_areFrom_1.mono_l k
  ·intro y0 y1 y2 y3 y4
   unfold slices_IndexFunc_at_impl_areFrom_1.l0
   repeat' first
   | (with_reducible exact ih0 _ _ _ _ _)
   | (with_reducible exact LeO.refl _)
   | (with_reducible exact LeO.none _)
   | (with_reducible refine LeO.ite ?_ ?_)
   | (with_reducible refine LeO.bind ?_ (fun _ => ?_))
   | exact ih0 _ _ _ _ _
   | exact LeO.none _
   | refine LeO.ite ?_ ?_
   | refine LeO.bind ?_ (fun _ => ?_)
theorem slices_IndexFunc_at_impl_areFrom_1.mono : ∀ a0 a1 a2 k, LeO (slices_IndexFunc_at_impl_areFrom_1.f k a0 a1 a2) (slices_IndexFunc_at_impl_areFrom_1.f (k + 1) a0 a1 a2) := by
 intro a0 a1 a2 k
 have ih0 := slices_IndexFunc_at_impl_areFrom_1.mono_l k
 unfold slices_IndexFunc_at_impl_areFrom_1.f
 repeat' first
   | (with_reducible exact ih0 _ _ _ _ _)
   | (with_reducible exact LeO.refl _)
   | (with_reducible exact LeO.none _)
   | (with_reducible refine LeO.ite ?_ ?_)
   | (with_reducible refine LeO.bind ?_ (fun _ => ?_))
   | exact ih0 _ _ _ _ _
   | exact LeO.none _
   | refine LeO.ite ?_ ?_
   | refine LeO.bind ?_ (fun _ => ?_)
set_option maxHeartbeats 64000000 in
set_option maxRecDepth 100000 in
theorem slices_IndexFunc_at_impl_areFrom_1.calls (k : Nat) (A0 : Option Addr) (c0 : Nat) (l0 : List Int) (gc1_0 : Nat) (a1_0 : Int) (gc1_1 : Nat) (a1_1 : Int) (r : Int) (w : World) (hr0 : Kd.C (Kd.int .i64) w A0 l0.length l0) (hc0 : l0.length ≤ c0) (hk1_0 : w.heap[gc1_0]? = some (.cells #[.int .i64 a1_0] 3 (0, 0))) (hk1_1 : w.heap[gc1_1]? = some (.cells #[.int .i64 a1_1] 3 (0, 0))) (h : slices_IndexFunc_at_impl_areFrom_1.f k l0 a1_0 a1_1 = some r) :
  Calls Try.prog 147 #[.slice A0 l0.length c0, .func (.func 128) #[] #[.pointer (some ⟨gc1_0, 0, none⟩), .pointer (some ⟨gc1_1, 0, none⟩)]] w fun e w' => e = .returned (.int .i64 r) ∧ Below w.heap.size w w' := by
 obtain ⟨HR0, HC0, BK28, BK29, HB⟩ := zD5 hr0 hc0 hk1_0 hk1_1 (Below.refl w.heap.size w)
 clear hr0 hc0 hk1_0 hk1_1
 have H : (slices_IndexFunc_at_impl_areFrom_1.l0 k l0 (l0.length : Int) 0 a1_0 a1_1) = some r := h
 clear h
 have H' := za H
 clear H
 go_enter Try.func147, Try.ntmps147
 go_wp2
 go_loopg [8] k (fun kq v8 w' => ∃ (x8_1 : Int), v8 = .int .i64 x8_1 ∧ Aside0 (slices_IndexFunc_at_impl_areFrom_1.l0 kq l0 (l0.length : Int) x8_1 a1_0 a1_1 = some r) ∧ Aside0 (kq ≤ k) ∧ Aside0 (w'.heap[gc1_0]? = some (.cells #[.int .i64 a1_0] 3 (0, 0))) ∧ Aside0 (w'.heap[gc1_1]? = some (.cells #[.int .i64 a1_1] 3 (0, 0))) ∧ Aside0 (Below w.heap.size w w'))
 case atStart => exact ⟨(0), zG127, H', ⟨Nat.le_refl _⟩, ⟨zH104⟩, ⟨by (with_reducible repeat (first | refine zc ?_ _ | refine zd ?_ | refine zb ?_ _)); exact BK29.out⟩, ⟨zH58⟩⟩
 case round =>
  clear H'
  obtain ⟨x8_1, rfl, HA, HK1, BK28, BK29, HB⟩ := hrel
  cases gk with
  | zero => exact absurd HA.out (by simp [slices_IndexFunc_at_impl_areFrom_1.l0])
  | succ k1 =>
   have H := HA.out
   clear HA
   simp only [slices_IndexFunc_at_impl_areFrom_1.l0] at H
   by_cases c3 : x8_1 < (l0.length : Int)
   rotate_left
   ·rw [if_neg c3] at H
    have c3b0 := decide_eq_false c3
    clear c3
    obtain rfl := Option.some.inj H
    go_wp2
    go_ret
    exact zH23

   rw [if_pos c3] at H
   have c3b0 := decide_eq_true c3
   clear c3
   by_cases c4 : 0 ≤ x8_1
   rotate_left
   ·rw [if_neg c4] at H
    exact absurd H (by simp)
   rw [if_pos c4] at H
   have c4b0 := decide_eq_true c4
   clear c4
   by_cases c5 : x8_1 < (l0.length : Int)
   rotate_left
   ·rw [if_neg c5] at H
    exact absurd H (by simp)
   rw [if_pos c5] at H
   have c5b0 := decide_eq_true c5
   clear c5
   replace H := Option.bind_eq_some_iff.mp H
   obtain ⟨t289, A60, H⟩ := H
   replace H : (if t289 = true then (some x8_1) else (slices_IndexFunc_at_impl_areFrom_1.l0 k1 l0 (l0.length : Int) (wrap64 (x8_1 + 1)) a1_0 a1_1)) = some r := H
   have A6 := za A60
   clear A60
   by_cases c7 : t289 = true
   ·subst c7
    have H1 : (some x8_1) = some r := by rw [if_pos rfl] at H; exact H
    clear H
    have H := H1
    clear H1
    obtain rfl := Option.some.inj H
    have p288 : 0 ≤ (x8_1 : Int) := zO
    have q288 : x8_1 < (l0.length : Int) := zO
    obtain ⟨ad288, e288, hx288_0⟩ := zbc HR0.out x8_1 p288 q288
    cases e288
    replace hx288_0 := (HB.out.cell (zn w _ hx288_0)).trans hx288_0
    replace p288 := eq_true p288
    replace q288 := eq_true q288
    go_wp2_with (first | (go_at_call 128; (with_reducible refine (impl_areFrom_1.calls (rd l0 x8_1) gc1_0 a1_0 gc1_1 a1_1 true _ ?side1 ?side2 A6.out).mono ?_); (case side1 => exact zH95); (case side2 => exact zH94); rintro e w' ⟨rfl, ⟨nd, rfl⟩⟩))
    go_ret
    exact zH23
   replace c7 := Bool.eq_false_iff.mpr c7
   subst c7
   have H1 : (slices_IndexFunc_at_impl_areFrom_1.l0 k1 l0 (l0.length : Int) (wrap64 (x8_1 + 1)) a1_0 a1_1) = some r := by rw [if_neg (show ¬ (false = true) by decide)] at H; exact H
   clear H
   have H := H1
   clear H1
   have H' := za H
   clear H
   have p288 : 0 ≤ (x8_1 : Int) := zO
   have q288 : x8_1 < (l0.length : Int) := zO
   obtain ⟨ad288, e288, hx288_0⟩ := zbc HR0.out x8_1 p288 q288
   cases e288
   replace hx288_0 := (HB.out.cell (zn w _ hx288_0)).trans hx288_0
   replace p288 := eq_true p288
   replace q288 := eq_true q288
   go_wp2_with (first | (go_at_call 128; (with_reducible refine (impl_areFrom_1.calls (rd l0 x8_1) gc1_0 a1_0 gc1_1 a1_1 false _ ?side1 ?side2 A6.out).mono ?_); (case side1 => exact zH95); (case side2 => exact zH94); rintro e w' ⟨rfl, ⟨nd, rfl⟩⟩))
   go_roundg k1
   case measure => have := HK1.out; omega
   case rel => exact ⟨(wrap64 (x8_1 + 1)), zG127, H', ⟨zH124⟩, ⟨zH104⟩, ⟨by (with_reducible repeat (first | refine zc ?_ _ | refine zd ?_ | refine zb ?_ _)); exact BK29.out⟩, ⟨zH58⟩⟩
/-! ### slices_ContainsFunc_at_impl_areFrom_1: function 500002 -/
def slices_ContainsFunc_at_impl_areFrom_1.f (k : Nat) (l0 : List Int) (a1_0 : Int) (a1_1 : Int) : Option (Bool) := (slices_IndexFunc_at_impl_areFrom_1.f k l0 a1_0 a1_1).bind fun t290 => (some (decide (t290 ≥ 0)))
theorem slices_ContainsFunc_at_impl_areFrom_1.mono : ∀ a0 a1 a2 k, LeO (slices_ContainsFunc_at_impl_areFrom_1.f k a0 a1 a2) (slices_ContainsFunc_at_impl_areFrom_1.f (k + 1) a0 a1 a2) := by
 intro a0 a1 a2 k
 unfold slices_ContainsFunc_at_impl_areFrom_1.f
 repeat' first
   | (with_reducible exact slices_IndexFunc_at_impl_areFrom_1.mono _ _ _ _)
   | (with_reducible exact LeO.refl _)
   | (with_reducible exact LeO.none _)
   | (with_reducible refine LeO.ite ?_ ?_)
   | (with_reducible refine LeO.bind ?_ (fun _ => ?_))
   | exact slices_IndexFunc_at_impl_areFrom_1.mono _ _ _ _
   | exact LeO.none _
   | refine LeO.ite ?_ ?_
   | refine LeO.bind ?_ (fun _ => ?_)
set_option maxHeartbeats 64000000 in
set_option maxRecDepth 100000 in
theorem slices_ContainsFunc_at_impl_areFrom_1.calls (k : Nat) (A0 : Option Addr) (c0 : Nat) (l0 : List Int) (gc1_0 : Nat) (a1_0 : Int) (gc1_1 : Nat) (a1_1 : Int) (r : Bool) (w : World) (hr0 : Kd.C (Kd.int .i64) w A0 l0.length l0) (hc0 : l0.length ≤ c0) (hk1_0 : w.heap[gc1_0]? = some (.cells #[.int .i64 a1_0] 3 (0, 0))) (hk1_1 : w.heap[gc1_1]? = some (.cells #[.int .i64 a1_1] 3 (0, 0))) (h : slices_ContainsFunc_at_impl_areFrom_1.f k l0 a1_0 a1_1 = some r) :
  Calls Try.prog 127 #[.slice A0 l0.length c0, .func (.func 128) #[] #[.pointer (some ⟨gc1_0, 0, none⟩), .pointer (some ⟨gc1_1, 0, none⟩)]] w fun e w' => e = .returned (.bool r) ∧ Below w.heap.size w w' := by
 obtain ⟨HR0, HC0, BK28, BK29, HB⟩ := zD5 hr0 hc0 hk1_0 hk1_1 (Below.refl w.heap.size w)
 clear hr0 hc0 hk1_0 hk1_1
 have H : ((slices_IndexFunc_at_impl_areFrom_1.f k l0 a1_0 a1_1).bind fun t290 => (some (decide (t290 ≥ 0)))) = some r := h
 clear h
 replace H := Option.bind_eq_some_iff.mp H
 obtain ⟨t290, A30, H⟩ := H
 replace H : (some (decide (t290 ≥ 0))) = some r := H
 have A3 := za A30
 clear A30
 obtain rfl := Option.some.inj H
 go_enter Try.func127, Try.ntmps127
 go_wp2_with (first | ((with_reducible refine gate_callee (f := 147) rfl ?_); refine goesL_ (some 7) rfl rfl Try.func147 zG128 rfl #[.slice A0 l0.length c0, .func (.func 128) #[] #[.pointer (some ⟨gc1_0, 0, none⟩), .pointer (some ⟨gc1_1, 0, none⟩)]] rfl zG97 ?_; (with_reducible refine (slices_IndexFunc_at_impl_areFrom_1.calls k _ _ l0 gc1_0 a1_0 gc1_1 a1_1 t290 _ ?side1 ?side2 ?side3 ?side4 A3.out).mono ?_); (case side1 => exact zH78); (case side2 => exact zH128); (case side3 => exact zH95); (case side4 => exact zH94); rintro e w4 ⟨rfl, hb⟩; refine ⟨_, rfl, ?_⟩; have n_ := zA_ (za (zp (g := gc1_0) (o := .cells #[.int .i64 a1_0] 3 (0, 0)) zK236 hb)) (zA_ (za (zp (g := gc1_1) (o := .cells #[.int .i64 a1_1] 3 (0, 0)) (by (with_reducible repeat (first | refine zc ?_ _ | refine zd ?_ | refine zb ?_ _)); exact BK29.out) hb)) (za (zu (by repeat (first | (with_reducible first | exact HB.out | apply zh | apply zf | apply zg | refine ze ?_ GE28.out | refine ze ?_ GE29.out) | exact HB.out)) hb))); clear BK28 BK29 HB; obtain ⟨BK28, BK29, HB⟩ := n_; (try clear hb)))
 go_ret
 exact zH23

/-! ### impl_areFrom: function 85 -/
def impl_areFrom.f (k : Nat) (l0 : List Int) (a1 : Int) (a2 : Int) : Option (Bool) := (slices_ContainsFunc_at_impl_areFrom_1.f k l0 a1 a2).bind fun t293 => (some (!t293))
theorem impl_areFrom.mono : ∀ a0 a1 a2 k, LeO (impl_areFrom.f k a0 a1 a2) (impl_areFrom.f (k + 1) a0 a1 a2) := by
 intro a0 a1 a2 k
 unfold impl_areFrom.f
 repeat' first
   | (with_reducible exact slices_ContainsFunc_at_impl_areFrom_1.mono _ _ _ _)
   | (with_reducible exact LeO.refl _)
   | (with_reducible exact LeO.none _)
   | (with_reducible refine LeO.ite ?_ ?_)
   | (with_reducible refine LeO.bind ?_ (fun _ => ?_))
   | exact slices_ContainsFunc_at_impl_areFrom_1.mono _ _ _ _
   | exact LeO.none _
   | refine LeO.ite ?_ ?_
   | refine LeO.bind ?_ (fun _ => ?_)
set_option maxHeartbeats 64000000 in
set_option maxRecDepth 100000 in
theorem impl_areFrom.calls (k : Nat) (A0 : Option Addr) (c0 : Nat) (l0 : List Int) (a1 : Int) (a2 : Int) (r : Bool) (w : World) (hr0 : Kd.C (Kd.int .i64) w A0 l0.length l0) (hc0 : l0.length ≤ c0) (h : impl_areFrom.f k l0 a1 a2 = some r) :
  Calls Try.prog 85 #[.slice A0 l0.length c0, .int .i64 a1, .int .i64 a2] w fun e w' => e = .returned (.bool r) ∧ Below w.heap.size w w' := by
 have hu3 := Try.underlying3
 obtain ⟨HR0, HC0, HB⟩ := zD3 hr0 hc0 (Below.refl w.heap.size w)
 clear hr0 hc0
 have H : ((slices_ContainsFunc_at_impl_areFrom_1.f k l0 a1 a2).bind fun t293 => (some (!t293))) = some r := h
 clear h
 replace H := Option.bind_eq_some_iff.mp H
 obtain ⟨t293, A40, H⟩ := H
 replace H : (some (!t293)) = some r := H
 have A4 := za A40
 clear A40
 obtain rfl := Option.some.inj H
 go_enter Try.func85, Try.ntmps85
 go_wp2_with (first | ((with_reducible refine gate_dst (N := 4) rfl ?_); refine box_event ?hg (N := 4) ?hd (cs := #[.int .i64 a1]) (t := 3) ?hr ?_; (case hd => rfl); (case hg => rfl); (case hr => exact zH119); intro gb291 hg w5 hbox hb; have n_ := zA_ (za (zu zG102 hb)) (zA_ (za (hbox)) (zA_ (zN1 w.heap.size hg (zq zG102)) (zN1 w.heap.size hg (zq zG102)))); clear HB; obtain ⟨HB, BK291, GW291, GE291⟩ := n_; clear hb hbox hg) | ((with_reducible refine gate_dst (N := 5) rfl ?_); refine box_event ?hg (N := 5) ?hd (cs := #[.int .i64 a2]) (t := 3) ?hr ?_; (case hd => rfl); (case hg => rfl); (case hr => exact zH119); intro gb292 hg w6 hbox hb; have n_ := zA_ (za (zp (g := gb291) (o := .cells #[.int .i64 a1] 3 (0, 0)) zK232 hb)) (zA_ (za (zu zK215 hb)) (zA_ (za (hbox)) (zA_ (zN1 w.heap.size hg (zq zK215)) (zA_ (zN1 w.heap.size hg (zq zK215)) (zN2 hg (zz (g := gb291) (o := .cells #[.int .i64 a1] 3 (0, 0)) zK232)))))); clear BK291 HB; obtain ⟨BK291, HB, BK292, GW292, GE292, NB291_292, NB292_291⟩ := n_; clear hb hbox hg) | ((with_reducible refine gate_callee (f := 127) rfl ?_); refine goesL_ (some 9) rfl rfl Try.func127 zG128 rfl #[.slice A0 l0.length c0, .func (.func 128) #[] #[.pointer (some ⟨gb291, 0, none⟩), .pointer (some ⟨gb292, 0, none⟩)]] rfl zG97 ?_; (with_reducible refine (slices_ContainsFunc_at_impl_areFrom_1.calls k _ _ l0 gb291 a1 gb292 a2 t293 _ ?side1 ?side2 ?side3 ?side4 A4.out).mono ?_); (case side1 => exact zH67); (case side2 => exact zH128); (case side3 => exact zK232); (case side4 => exact (by (with_reducible repeat (first | refine zc ?_ _ | refine zd ?_ | refine zb ?_ _)); exact BK292.out)); rintro e w7 ⟨rfl, hb⟩; refine ⟨_, rfl, ?_⟩; have n_ := zA_ (za (zp (g := gb291) (o := .cells #[.int .i64 a1] 3 (0, 0)) zK232 hb)) (zA_ (za (zp (g := gb292) (o := .cells #[.int .i64 a2] 3 (0, 0)) (by (with_reducible repeat (first | refine zc ?_ _ | refine zd ?_ | refine zb ?_ _)); exact BK292.out) hb)) (za (zu (by repeat (first | (with_reducible first | exact HB.out | apply zh | apply zf | apply zg | refine ze ?_ GE291.out | refine ze ?_ GE292.out) | exact HB.out)) hb))); clear BK291 BK292 HB; obtain ⟨BK291, BK292, HB⟩ := n_; (try clear hb)))
 go_ret
 exact ⟨zH111, by repeat (first | (with_reducible first | exact HB.out | apply zh | apply zf | apply zg | refine ze ?_ GE291.out | refine ze ?_ GE292.out) | exact HB.out)⟩

/-! ### impl_SourceOf: function 25 -/
mutual
def impl_SourceOf.j0 : Nat → List (S58) → List (S124) → List Int → Bool → Option (List Int × Int × Int × Int)
 | 0, _, _, _, _ => none
 | k + 1, x0, x1, x2, x10 => if x10 = true then (some (([] : List Int), 0, 0, 2)) else ((impl_SourcesOK.f k x0 x1).bind fun t298 => (if t298 = true then (if (x2.length : Int) = (x1.length : Int) then ((impl_areFrom.f k x2 0 (wrap64 ((x0.length : Int) - 1))).bind fun t299 => (impl_SourceOf.j1 k x0 x1 x2 (!t299))) else (impl_SourceOf.j1 k x0 x1 x2 true)) else (some (([] : List Int), 0, 0, 1))))
def impl_SourceOf.j1 : Nat → List (S58) → List (S124) → List Int → Bool → Option (List Int × Int × Int × Int)
 | 0, _, _, _, _ => none
 | k + 1, x0, x1, x2, x31 => if x31 = true then (some (([] : List Int), 0, 0, 3)) else ((impl_sourceOf.f k x0 x1 x2).bind fun bt300 => (if bt300.2.2.2 = true then (some (bt300.1, bt300.2.1, bt300.2.2.1, 0)) else (some (([] : List Int), 0, 0, 19))))
end
def impl_SourceOf.f (k : Nat) (l0 : List (S58)) (l1 : List (S124)) (l2 : List Int) : Option (List Int × Int × Int × Int) := (impl_Source.f l0).bind fun t295 => (if t295 = true then ((impl_Stocked_79.f l1).bind fun t296 => (if t296 = true then ((impl_isList_int.f l2).bind fun t297 => (impl_SourceOf.j0 k l0 l1 l2 (!t297))) else (impl_SourceOf.j0 k l0 l1 l2 true))) else (impl_SourceOf.j0 k l0 l1 l2 true))
theorem impl_SourceOf.mono_l : ∀ k, (∀ y0 y1 y2 y3, LeO (impl_SourceOf.j0 k y0 y1 y2 y3) (impl_SourceOf.j0 (k + 1) y0 y1 y2 y3)) ∧ (∀ y0 y1 y2 y3, LeO (impl_SourceOf.j1 k y0 y1 y2 y3) (impl_SourceOf.j1 (k + 1) y0 y1 y2 y3))
 | 0 => ⟨fun _ _ _ _ r h => by simp [impl_SourceOf.j0] at h, fun _ _ _ _ r h => by simp [impl_SourceOf.j1] at h⟩
 | k + 1 => by
  obtain ⟨ih0, ih1⟩ := impl_SourceOf.mono_l k
  refine ⟨?_, ?_⟩
  ·intro y0 y1 y2 y3
   unfold impl_SourceOf.j0
   repeat' first
   | (with_reducible exact ih0 _ _ _ _)
   | (with_reducible exact ih1 _ _ _ _)
   | (with_reducible exact impl_SourcesOK.mono _ _ _)
   | (with_reducible exact impl_areFrom.mono _ _ _ _)
   | (with_reducible exact impl_sourceOf.mono _ _ _ _)
   | (with_reducible exact LeO.refl _)
   | (with_reducible exact LeO.none _)
   | (with_reducible refine LeO.ite ?_ ?_)
   | (with_reducible refine LeO.bind ?_ (fun _ => ?_))
   | exact ih0 _ _ _ _
   | exact ih1 _ _ _ _
   | exact impl_SourcesOK.mono _ _ _
   | exact impl_areFrom.mono _ _ _ _
   | exact impl_sourceOf.mono _ _ _ _
   | exact LeO.none _
   | refine LeO.ite ?_ ?_
   | refine LeO.bind ?_ (fun _ => ?_)
  ·intro y0 y1 y2 y3
   unfold impl_SourceOf.j1
   repeat' first
   | (with_reducible exact ih0 _ _ _ _)
   | (with_reducible exact ih1 _ _ _ _)
   | (with_reducible exact impl_SourcesOK.mono _ _ _)
   | (with_reducible exact impl_areFrom.mono _ _ _ _)
   | (with_reducible exact impl_sourceOf.mono _ _ _ _)
   | (with_reducible exact LeO.refl _)
   | (with_reducible exact LeO.none _)
   | (with_reducible refine LeO.ite ?_ ?_)
   | (with_reducible refine LeO.bind ?_ (fun _ => ?_))
   | exact ih0 _ _ _ _
   | exact ih1 _ _ _ _
   | exact impl_SourcesOK.mono _ _ _
   | exact impl_areFrom.mono _ _ _ _
   | exact impl_sourceOf.mono _ _ _ _
   | exact LeO.none _
   | refine LeO.ite ?_ ?_
   | refine LeO.bind ?_ (fun _ => ?_)
theorem impl_SourceOf.mono : ∀ a0 a1 a2 k, LeO (impl_SourceOf.f k a0 a1 a2) (impl_SourceOf.f (k + 1) a0 a1 a2) := by
 intro a0 a1 a2 k
 obtain ⟨ih0, ih1⟩ := impl_SourceOf.mono_l k
 unfold impl_SourceOf.f
 repeat' first
   | (with_reducible exact ih0 _ _ _ _)
   | (with_reducible exact ih1 _ _ _ _)
   | (with_reducible exact impl_SourcesOK.mono _ _ _)
   | (with_reducible exact impl_areFrom.mono _ _ _ _)
   | (with_reducible exact impl_sourceOf.mono _ _ _ _)
   | (with_reducible exact LeO.refl _)
   | (with_reducible exact LeO.none _)
   | (with_reducible refine LeO.ite ?_ ?_)
   | (with_reducible refine LeO.bind ?_ (fun _ => ?_))
   | exact ih0 _ _ _ _
   | exact ih1 _ _ _ _
   | exact impl_SourcesOK.mono _ _ _
   | exact impl_areFrom.mono _ _ _ _
   | exact impl_sourceOf.mono _ _ _ _
   | exact LeO.none _
   | refine LeO.ite ?_ ?_
   | refine LeO.bind ?_ (fun _ => ?_)
set_option maxHeartbeats 64000000 in
set_option maxRecDepth 100000 in
theorem impl_SourceOf.calls (k : Nat) (A0 : Option Addr) (c0 : Nat) (l0 : List (S58)) (A1 : Option Addr) (c1 : Nat) (l1 : List (S124)) (A2 : Option Addr) (c2 : Nat) (l2 : List Int) (r1 : List Int) (r2 : Int) (r3 : Int) (r4 : Int) (w : World) (hr0 : Kd.C k58 w A0 l0.length l0) (hc0 : l0.length ≤ c0) (hr1 : Kd.C k124 w A1 l1.length l1) (hc1 : l1.length ≤ c1) (hr2 : Kd.C (Kd.int .i64) w A2 l2.length l2) (hc2 : l2.length ≤ c2) (h : impl_SourceOf.f k l0 l1 l2 = some (r1, r2, r3, r4)) :
  Calls Try.prog 25 #[.slice A0 l0.length c0, .slice A1 l1.length c1, .slice A2 l2.length c2] w fun e w' => ∃ v0_ : Value, e = .returned (.tuple #[.agg #[v0_, .int .i64 r2, .int .i64 r3], .int .i64 r4]) ∧ Kd.R (Kd.int .i64) 3 w' w.heap.size (fun _ => True) v0_ r1 ∧ Below w.heap.size w w' := by
 have hu52 := Try.underlying52
 obtain ⟨HR0, HC0, HR1, HC1, HR2, HC2, HB⟩ := zD7 hr0 hc0 hr1 hc1 hr2 hc2 (Below.refl w.heap.size w)
 clear hr0 hc0 hr1 hc1 hr2 hc2
 have H : ((impl_Source.f l0).bind fun t295 => (if t295 = true then ((impl_Stocked_79.f l1).bind fun t296 => (if t296 = true then ((impl_isList_int.f l2).bind fun t297 => (impl_SourceOf.j0 k l0 l1 l2 (!t297))) else (impl_SourceOf.j0 k l0 l1 l2 true))) else (impl_SourceOf.j0 k l0 l1 l2 true))) = some (r1, r2, r3, r4) := h
 clear h
 have HC4 := za H
 clear H
 go_enter Try.func25, Try.ntmps25
 go_upto_region 1 with (first | ((with_reducible refine gate_dst (N := 6) rfl ?_); (try (refine gate_guard (by rfl) ?_; dsimp only)); refine box_event ?hg (N := 6) ?hd (cs := #[.slice none 0 0, .int .i64 0, .int .i64 0]) (t := 52) ?hr ?_; (case hd => rfl); (case hg => rfl); (case hr => exact zH119); intro gb294 hg w5 hbox hb; have n_ := zA_ (za (zu zG102 hb)) (zA_ (za (hbox)) (zA_ (zN1 w.heap.size hg (zq zG102)) (zN1 w.heap.size hg (zq zG102)))); clear HB; obtain ⟨HB, BK294, GW294, GE294⟩ := n_; clear hb hbox hg))
 (try simp only [Act.put, List.setIfInBounds_toArray, List.set_cons_zero, List.set_cons_succ])
 go_cut [10] (fun v10 wc => ∃ (kq : Nat) (x10_3 : Bool), v10 = .bool x10_3 ∧ Aside0 (impl_SourceOf.j0 kq l0 l1 l2 x10_3 = some (r1, r2, r3, r4)) ∧ Aside0 (kq ≤ k) ∧ Aside0 (wc.heap[gb294]? = some (.cells #[(.slice none 0 0), .int .i64 0, .int .i64 0] 52 (0, 0))) ∧ Aside0 (Below w.heap.size w wc))
 case first =>
  have H := HC4.out
  clear HC4
  replace H := Option.bind_eq_some_iff.mp H
  obtain ⟨t295, A60, H⟩ := H
  replace H : (if t295 = true then ((impl_Stocked_79.f l1).bind fun t296 => (if t296 = true then ((impl_isList_int.f l2).bind fun t297 => (impl_SourceOf.j0 k l0 l1 l2 (!t297))) else (impl_SourceOf.j0 k l0 l1 l2 true))) else (impl_SourceOf.j0 k l0 l1 l2 true)) = some (r1, r2, r3, r4) := H
  have A6 := za A60
  clear A60
  by_cases c7 : t295 = true
  rotate_left
  ·replace c7 := Bool.eq_false_iff.mpr c7
   subst c7
   have H1 : (impl_SourceOf.j0 k l0 l1 l2 true) = some (r1, r2, r3, r4) := by rw [if_neg (show ¬ (false = true) by decide)] at H; exact H
   clear H
   have H := H1
   clear H1
   have H' := za H
   clear H
   go_wp2_with (first | ((with_reducible refine gate_callee (f := 78) rfl ?_); refine goesL_ (some 12) rfl rfl Try.func78 zG128 rfl #[.slice A0 l0.length c0] rfl zG97 ?_; (with_reducible refine (impl_Source.calls _ _ l0 false _ ?side1 ?side2 A6.out).mono ?_); (case side1 => exact zH67); (case side2 => exact zH128); rintro e w' ⟨rfl, ⟨nd, rfl⟩⟩; refine ⟨_, rfl, ?_⟩))
   go_meet
   case rel => exact ⟨_, (true), zG127, H', ⟨zH120⟩, ⟨zH100⟩, ⟨zH83⟩⟩
  subst c7
  have H1 : ((impl_Stocked_79.f l1).bind fun t296 => (if t296 = true then ((impl_isList_int.f l2).bind fun t297 => (impl_SourceOf.j0 k l0 l1 l2 (!t297))) else (impl_SourceOf.j0 k l0 l1 l2 true))) = some (r1, r2, r3, r4) := by rw [if_pos rfl] at H; exact H
  clear H
  have H := H1
  clear H1
  replace H := Option.bind_eq_some_iff.mp H
  obtain ⟨t296, A80, H⟩ := H
  replace H : (if t296 = true then ((impl_isList_int.f l2).bind fun t297 => (impl_SourceOf.j0 k l0 l1 l2 (!t297))) else (impl_SourceOf.j0 k l0 l1 l2 true)) = some (r1, r2, r3, r4) := H
  have A8 := za A80
  clear A80
  by_cases c9 : t296 = true
  rotate_left
  ·replace c9 := Bool.eq_false_iff.mpr c9
   subst c9
   have H1 : (impl_SourceOf.j0 k l0 l1 l2 true) = some (r1, r2, r3, r4) := by rw [if_neg (show ¬ (false = true) by decide)] at H; exact H
   clear H
   have H := H1
   clear H1
   have H' := za H
   clear H
   go_wp2_with (first | ((with_reducible refine gate_callee (f := 78) rfl ?_); refine goesL_ (some 12) rfl rfl Try.func78 zG128 rfl #[.slice A0 l0.length c0] rfl zG97 ?_; (with_reducible refine (impl_Source.calls _ _ l0 true _ ?side1 ?side2 A6.out).mono ?_); (case side1 => exact zH67); (case side2 => exact zH128); rintro e w' ⟨rfl, ⟨nd, rfl⟩⟩; refine ⟨_, rfl, ?_⟩) | (go_at_call 79; (with_reducible refine (impl_Stocked_79.calls _ _ l1 false _ ?side1 ?side2 A8.out).mono ?_); (case side1 => exact zH68); (case side2 => exact zH127); rintro e w' ⟨rfl, ⟨nd, rfl⟩⟩))
   go_meet
   case rel => exact ⟨_, (true), zG127, H', ⟨zH120⟩, ⟨zH100⟩, ⟨zH83⟩⟩
  subst c9
  have H1 : ((impl_isList_int.f l2).bind fun t297 => (impl_SourceOf.j0 k l0 l1 l2 (!t297))) = some (r1, r2, r3, r4) := by rw [if_pos rfl] at H; exact H
  clear H
  have H := H1
  clear H1
  replace H := Option.bind_eq_some_iff.mp H
  obtain ⟨t297, A100, H⟩ := H
  replace H : (impl_SourceOf.j0 k l0 l1 l2 (!t297)) = some (r1, r2, r3, r4) := H
  have A10 := za A100
  clear A100
  have H' := za H
  clear H
  go_wp2_with (first | ((with_reducible refine gate_callee (f := 78) rfl ?_); refine goesL_ (some 12) rfl rfl Try.func78 zG128 rfl #[.slice A0 l0.length c0] rfl zG97 ?_; (with_reducible refine (impl_Source.calls _ _ l0 true _ ?side1 ?side2 A6.out).mono ?_); (case side1 => exact zH67); (case side2 => exact zH128); rintro e w' ⟨rfl, ⟨nd, rfl⟩⟩; refine ⟨_, rfl, ?_⟩) | (go_at_call 79; (with_reducible refine (impl_Stocked_79.calls _ _ l1 true _ ?side1 ?side2 A8.out).mono ?_); (case side1 => exact zH68); (case side2 => exact zH127); rintro e w' ⟨rfl, ⟨nd, rfl⟩⟩) | (go_at_call 63; (with_reducible refine (impl_isList_int.calls _ _ l2 t297 _ ?side1 ?side2 A10.out).mono ?_); (case side1 => repeat (first | exact (zai HR2.out zG100) | (with_reducible refine zab ?_ _) | (with_reducible refine zac ?_ _) | (with_reducible refine zad ?_))); (case side2 => exact HC2.out); rintro e w' ⟨rfl, ⟨nd, rfl⟩⟩))
  go_meet
  case rel => exact ⟨_, (!t297), zG127, H', ⟨zH120⟩, ⟨zH100⟩, ⟨zH83⟩⟩
 case rest =>
  clear HC4
  try clear c1
  try clear c2
  try clear c7
  try clear c9
  obtain ⟨kq, x10_3, rfl, HA, HJ3, BK294, HB⟩ := hcut
  cases kq with
  | zero => exact absurd HA.out (by simp [impl_SourceOf.j0])
  | succ kj3 =>
   have H := HA.out
   clear HA
   simp only [impl_SourceOf.j0] at H
   by_cases c11 : x10_3 = true
   ·subst c11
    have H1 : (some (([] : List Int), 0, 0, 2)) = some (r1, r2, r3, r4) := by rw [if_pos rfl] at H; exact H
    clear H
    have H := H1
    clear H1
    simp only [Option.some.injEq, Prod.mk.injEq] at H
    obtain ⟨rfl, rfl, rfl, rfl⟩ := H
    obtain ⟨hcz12_0, hcz12_1, hcz12_2, hfz12_0, hfz12_1, hfz12_2⟩ := zB3 BK294.out
    go_wp2
    refine bodyPost_ret (results_ct rfl _ _ gb294 52 #[.slice none 0 0, .int .i64 0, .int .i64 0] (0, 0) _ rfl zK138 Try.underlying52 rfl zG128) rfl ?_
    exact zH11
   replace c11 := Bool.eq_false_iff.mpr c11
   subst c11
   have H1 : ((impl_SourcesOK.f kj3 l0 l1).bind fun t298 => (if t298 = true then (if (l2.length : Int) = (l1.length : Int) then ((impl_areFrom.f kj3 l2 0 (wrap64 ((l0.length : Int) - 1))).bind fun t299 => (impl_SourceOf.j1 kj3 l0 l1 l2 (!t299))) else (impl_SourceOf.j1 kj3 l0 l1 l2 true)) else (some (([] : List Int), 0, 0, 1)))) = some (r1, r2, r3, r4) := by rw [if_neg (show ¬ (false = true) by decide)] at H; exact H
   clear H
   have H := H1
   clear H1
   replace H := Option.bind_eq_some_iff.mp H
   obtain ⟨t298, A130, H⟩ := H
   replace H : (if t298 = true then (if (l2.length : Int) = (l1.length : Int) then ((impl_areFrom.f kj3 l2 0 (wrap64 ((l0.length : Int) - 1))).bind fun t299 => (impl_SourceOf.j1 kj3 l0 l1 l2 (!t299))) else (impl_SourceOf.j1 kj3 l0 l1 l2 true)) else (some (([] : List Int), 0, 0, 1))) = some (r1, r2, r3, r4) := H
   have A13 := za A130
   clear A130
   by_cases c14 : t298 = true
   rotate_left
   ·replace c14 := Bool.eq_false_iff.mpr c14
    subst c14
    have H1 : (some (([] : List Int), 0, 0, 1)) = some (r1, r2, r3, r4) := by rw [if_neg (show ¬ (false = true) by decide)] at H; exact H
    clear H
    have H := H1
    clear H1
    simp only [Option.some.injEq, Prod.mk.injEq] at H
    obtain ⟨rfl, rfl, rfl, rfl⟩ := H
    go_wp2_with (first | ((with_reducible refine gate_callee (f := 26) rfl ?_); refine goesL_ (some 28) rfl rfl Try.func26 zG128 rfl #[.slice A0 l0.length c0, .slice A1 l1.length c1] rfl zG97 ?_; (with_reducible refine (impl_SourcesOK.calls kj3 _ _ l0 _ _ l1 false _ ?side1 ?side2 ?side3 ?side4 A13.out).mono ?_); (case side1 => exact zH67); (case side2 => exact zH128); (case side3 => exact zH66); (case side4 => exact zH127); rintro e w36 ⟨rfl, hb⟩; refine ⟨_, rfl, ?_⟩; have n_ := zA_ (za (zp (g := gb294) (o := .cells #[.slice none 0 0, .int .i64 0, .int .i64 0] 52 (0, 0)) zK233 hb)) (za (zu zG100 hb)); clear BK294 HB; obtain ⟨BK294, HB⟩ := n_; (try clear hb); obtain ⟨hcz37_0, hcz37_1, hcz37_2, hfz37_0, hfz37_1, hfz37_2⟩ := zB3 BK294.out))
    refine bodyPost_ret (results_ct rfl _ _ gb294 52 #[.slice none 0 0, .int .i64 0, .int .i64 0] (0, 0) _ rfl zK138 Try.underlying52 rfl zG128) rfl ?_
    exact zH11

   subst c14
   have H1 : (if (l2.length : Int) = (l1.length : Int) then ((impl_areFrom.f kj3 l2 0 (wrap64 ((l0.length : Int) - 1))).bind fun t299 => (impl_SourceOf.j1 kj3 l0 l1 l2 (!t299))) else (impl_SourceOf.j1 kj3 l0 l1 l2 true)) = some (r1, r2, r3, r4) := by rw [if_pos rfl] at H; exact H
   clear H
   have H := H1
   clear H1
   have HC15 := za H
   clear H
   go_upto_region 5 with (first | ((with_reducible refine gate_callee (f := 26) rfl ?_); refine goesL_ (some 28) rfl rfl Try.func26 zG128 rfl #[.slice A0 l0.length c0, .slice A1 l1.length c1] rfl zG97 ?_; (with_reducible refine (impl_SourcesOK.calls kj3 _ _ l0 _ _ l1 true _ ?side1 ?side2 ?side3 ?side4 A13.out).mono ?_); (case side1 => exact zH67); (case side2 => exact zH128); (case side3 => exact zH66); (case side4 => exact zH127); rintro e w16 ⟨rfl, hb⟩; refine ⟨_, rfl, ?_⟩; have n_ := zA_ (za (zp (g := gb294) (o := .cells #[.slice none 0 0, .int .i64 0, .int .i64 0] 52 (0, 0)) zK233 hb)) (za (zu zG100 hb)); clear BK294 HB; obtain ⟨BK294, HB⟩ := n_; (try clear hb)))
   (try simp only [Act.put, List.setIfInBounds_toArray, List.set_cons_zero, List.set_cons_succ])
   go_cut [31] (fun v31 wc => ∃ (kq : Nat) (x31_14 : Bool), v31 = .bool x31_14 ∧ Aside0 (impl_SourceOf.j1 kq l0 l1 l2 x31_14 = some (r1, r2, r3, r4)) ∧ Aside0 (kq ≤ kj3) ∧ Aside0 (wc.heap[gb294]? = some (.cells #[(.slice none 0 0), .int .i64 0, .int .i64 0] 52 (0, 0))) ∧ Aside0 (Below w.heap.size w wc))
   case first =>
    have H := HC15.out
    clear HC15
    by_cases c17 : (l2.length : Int) = (l1.length : Int)
    rotate_left
    ·rw [if_neg c17] at H
     have c17b0 : ((l2.length : Int) == (l1.length : Int)) = false := beq_eq_false_iff_ne.mpr c17
     have c17b1 : ((l2.length : Int) != (l1.length : Int)) = true := bne_iff_ne.mpr c17
     have c17b2 : (l2.length == l1.length) = false := by first | simpa using c17 | (simp at c17 ⊢; omega)
     (first | rw [c17b0] | (simp only [i64_w, i32_w]; rw [c17b0]) | skip)
     have H' := za H
     clear H
     go_wp2
     go_meet
     case rel => exact ⟨_, (true), zG127, H', ⟨by have := HJ3.out; first | omega | exact Nat.le_refl _⟩, ⟨zH100⟩, ⟨zH83⟩⟩
    rw [if_pos c17] at H
    have c17b0 : ((l2.length : Int) == (l1.length : Int)) = true := beq_iff_eq.mpr c17
    have c17b1 : ((l2.length : Int) != (l1.length : Int)) = false := bne_eq_false_iff_eq.mpr c17
    have c17b2 : (l2.length == l1.length) = true := by first | simpa using c17 | (simp at c17 ⊢; omega)
    clear c17
    (first | rw [c17b0] | (simp only [i64_w, i32_w]; rw [c17b0]) | skip)
    replace H := Option.bind_eq_some_iff.mp H
    obtain ⟨t299, A180, H⟩ := H
    replace H : (impl_SourceOf.j1 kj3 l0 l1 l2 (!t299)) = some (r1, r2, r3, r4) := H
    have A18 := za A180
    clear A180
    have H' := za H
    clear H
    go_wp2_with (first | (go_at_call 85; (with_reducible refine (impl_areFrom.calls kj3 _ _ l2 0 (wrap64 ((l0.length : Int) - 1)) t299 _ ?side1 ?side2 A18.out).mono ?_); (case side1 => exact zH65); (case side2 => exact HC2.out); rintro e w19 ⟨rfl, hb⟩; have n_ := zA_ (za (zp (g := gb294) (o := .cells #[.slice none 0 0, .int .i64 0, .int .i64 0] 52 (0, 0)) zK233 hb)) (za (zu zG100 hb)); clear BK294 HB; obtain ⟨BK294, HB⟩ := n_; (try clear hb)))
    go_meet
    case rel => exact ⟨_, (!t299), zG127, H', ⟨by have := HJ3.out; first | omega | exact Nat.le_refl _⟩, ⟨zH100⟩, ⟨zH83⟩⟩
   case rest =>
    clear HC15
    try clear c1
    try clear c2
    try clear c7
    try clear c9
    try clear c11
    try clear c14
    try clear c17
    try clear c17b0
    try clear c17b1
    try clear c17b2
    try clear hcz12_0
    try clear hcz12_1
    try clear hcz12_2
    try clear hfz12_0
    try clear hfz12_1
    try clear hfz12_2
    obtain ⟨kq, x31_14, rfl, HA, HJ14, BK294, HB⟩ := hcut
    cases kq with
    | zero => exact absurd HA.out (by simp [impl_SourceOf.j1])
    | succ kj14 =>
     have H := HA.out
     clear HA
     simp only [impl_SourceOf.j1] at H
     by_cases c20 : x31_14 = true
     ·subst c20
      have H1 : (some (([] : List Int), 0, 0, 3)) = some (r1, r2, r3, r4) := by rw [if_pos rfl] at H; exact H
      clear H
      have H := H1
      clear H1
      simp only [Option.some.injEq, Prod.mk.injEq] at H
      obtain ⟨rfl, rfl, rfl, rfl⟩ := H
      obtain ⟨hcz21_0, hcz21_1, hcz21_2, hfz21_0, hfz21_1, hfz21_2⟩ := zB3 BK294.out
      go_wp2
      refine bodyPost_ret (results_ct rfl _ _ gb294 52 #[.slice none 0 0, .int .i64 0, .int .i64 0] (0, 0) _ rfl zK138 Try.underlying52 rfl zG128) rfl ?_
      exact zH11
     replace c20 := Bool.eq_false_iff.mpr c20
     subst c20
     have H1 : ((impl_sourceOf.f kj14 l0 l1 l2).bind fun bt300 => (if bt300.2.2.2 = true then (some (bt300.1, bt300.2.1, bt300.2.2.1, 0)) else (some (([] : List Int), 0, 0, 19)))) = some (r1, r2, r3, r4) := by rw [if_neg (show ¬ (false = true) by decide)] at H; exact H
     clear H
     have H := H1
     clear H1
     replace H := Option.bind_eq_some_iff.mp H
     obtain ⟨⟨t300, t303, t304, t305⟩, A220, H⟩ := H
     replace H : (if t305 = true then (some (t300, t303, t304, 0)) else (some (([] : List Int), 0, 0, 19))) = some (r1, r2, r3, r4) := H
     have A22 := za A220
     clear A220
     by_cases c23 : t305 = true
     ·subst c23
      have H1 : (some (t300, t303, t304, 0)) = some (r1, r2, r3, r4) := by rw [if_pos rfl] at H; exact H
      clear H
      have H := H1
      clear H1
      simp only [Option.some.injEq, Prod.mk.injEq] at H
      obtain ⟨rfl, rfl, rfl, rfl⟩ := H
      go_wp2_with (first | ((with_reducible refine gate_callee (f := 81) rfl ?_); refine goesL_ (some 50) rfl rfl Try.func81 zG128 rfl #[.slice A0 l0.length c0, .slice A1 l1.length c1, .slice A2 l2.length c2] rfl zG97 ?_; (with_reducible refine (impl_sourceOf.calls kj14 _ _ l0 _ _ l1 _ _ l2 t300 t303 t304 true _ ?side1 ?side2 ?side3 ?side4 ?side5 ?side6 A22.out).mono ?_); (case side1 => exact zH67); (case side2 => exact zH128); (case side3 => exact zH66); (case side4 => exact zH127); (case side5 => exact zH65); (case side6 => exact HC2.out); rintro e w24 ⟨v301, rfl, ho0, hb⟩; refine ⟨_, rfl, ?_⟩; have n_ := zA_ (za (zam ho0 (zq zG100))) (zA_ (za (zp (g := gb294) (o := .cells #[.slice none 0 0, .int .i64 0, .int .i64 0] 52 (0, 0)) zK233 hb)) (za (zu zG100 hb))); clear BK294 HB; obtain ⟨HO302, BK294, HB⟩ := n_; (try clear hb); (try clear ho0)) | ((with_reducible refine gate_dst (N := 8) rfl ?_); (try (refine gate_guard (by rfl) ?_; dsimp only)); refine box_event ?hg (N := 8) ?hd (cs := #[.slice none 0 0, .int .i64 0, .int .i64 0]) (t := 52) ?hr ?_; (case hd => rfl); (case hg => rfl); (case hr => exact zH119); intro gb306 hg w25 hbox hb; have n_ := zA_ (za (zv (by (with_reducible repeat (first | apply zj | apply zk | apply zl)); exact HO302.out) hb)) (zA_ (za (zp (g := gb294) (o := .cells #[.slice none 0 0, .int .i64 0, .int .i64 0] 52 (0, 0)) zK233 hb)) (zA_ (za (zu zG100 hb)) (zA_ (za (hbox)) (zA_ (zN1 w.heap.size hg (zq zG100)) (zA_ (zN1 w.heap.size hg (zq zG100)) (zN2 hg (zz (g := gb294) (o := .cells #[.slice none 0 0, .int .i64 0, .int .i64 0] 52 (0, 0)) zK233))))))); clear HO302 BK294 HB; obtain ⟨HO302, BK294, HB, BK306, GW306, GE306, NB294_306, NB306_294⟩ := n_; clear hb hbox hg; obtain ⟨Ao26, co26, eo26⟩ := zan HO302.out; subst eo26; have hnb27 := NB306_294.out; have hnc27 := NB294_306.out; obtain ⟨hcz28_0, hcz28_1, hcz28_2, hfz28_0, hfz28_1, hfz28_2⟩ := zB3 BK306.out; obtain ⟨hcz29_0, hcz29_1, hcz29_2, hfz29_0, hfz29_1, hfz29_2⟩ := zB3 BK294.out))
      refine bodyPost_ret (results_ct rfl _ _ gb294 52 #[.slice Ao26 t300.length co26, .int .i64 t303, .int .i64 t304] (0, 0) _ rfl (by (with_reducible repeat (first | refine zc ?_ _ | refine zd ?_ | refine zb ?_ _)); refine zw (cs := #[.slice Ao26 t300.length co26, .int .i64 t303, .int .i64 0]) ?_ 2 _ rfl; (with_reducible repeat (first | refine zc ?_ _ | refine zd ?_ | refine zb ?_ _)); refine zw (cs := #[.slice Ao26 t300.length co26, .int .i64 0, .int .i64 0]) ?_ 1 _ rfl; (with_reducible repeat (first | refine zc ?_ _ | refine zd ?_ | refine zb ?_ _)); refine zw (cs := #[.slice none 0 0, .int .i64 0, .int .i64 0]) ?_ 0 _ rfl; (with_reducible repeat (first | refine zc ?_ _ | refine zd ?_ | refine zb ?_ _)); refine zr ?_ NB294_306.out _; (with_reducible repeat (first | refine zc ?_ _ | refine zd ?_ | refine zb ?_ _)); refine zr ?_ NB294_306.out _; (with_reducible repeat (first | refine zc ?_ _ | refine zd ?_ | refine zb ?_ _)); refine zr ?_ NB294_306.out _; (with_reducible repeat (first | refine zc ?_ _ | refine zd ?_ | refine zb ?_ _)); exact BK294.out) Try.underlying52 rfl zG128) rfl ?_
      exact ⟨_, zH111, by (with_reducible repeat (first | apply zj | apply zk | apply zl)); exact zs (zo (p := ⟨gb294, 2, none⟩) (zo (p := ⟨gb294, 1, none⟩) (zo (p := ⟨gb294, 0, none⟩) (zo (p := ⟨gb306, 2, none⟩) (zo (p := ⟨gb306, 1, none⟩) (zo (p := ⟨gb306, 0, none⟩) (zt (zt HO302.out BK306.out zG129) BK294.out zG129) (fun _ hk => hk.1.2) (.slice Ao26 t300.length co26)) (fun _ hk => hk.1.2) (.int .i64 t303)) (fun _ hk => hk.1.2) (.int .i64 t304)) (fun _ hk => hk.2) (.slice Ao26 t300.length co26)) (fun _ hk => hk.2) (.int .i64 t303)) (fun _ hk => hk.2) (.int .i64 t304)) (fun _ hk => trivial), zH50⟩
     replace c23 := Bool.eq_false_iff.mpr c23
     subst c23
     have H1 : (some (([] : List Int), 0, 0, 19)) = some (r1, r2, r3, r4) := by rw [if_neg (show ¬ (false = true) by decide)] at H; exact H
     clear H
     have H := H1
     clear H1
     simp only [Option.some.injEq, Prod.mk.injEq] at H
     obtain ⟨rfl, rfl, rfl, rfl⟩ := H
     go_wp2_with (first | ((with_reducible refine gate_callee (f := 81) rfl ?_); refine goesL_ (some 50) rfl rfl Try.func81 zG128 rfl #[.slice A0 l0.length c0, .slice A1 l1.length c1, .slice A2 l2.length c2] rfl zG97 ?_; (with_reducible refine (impl_sourceOf.calls kj14 _ _ l0 _ _ l1 _ _ l2 t300 t303 t304 false _ ?side1 ?side2 ?side3 ?side4 ?side5 ?side6 A22.out).mono ?_); (case side1 => exact zH67); (case side2 => exact zH128); (case side3 => exact zH66); (case side4 => exact zH127); (case side5 => exact zH65); (case side6 => exact HC2.out); rintro e w30 ⟨v301, rfl, ho0, hb⟩; refine ⟨_, rfl, ?_⟩; have n_ := zA_ (za (zam ho0 (zq zG100))) (zA_ (za (zp (g := gb294) (o := .cells #[.slice none 0 0, .int .i64 0, .int .i64 0] 52 (0, 0)) zK233 hb)) (za (zu zG100 hb))); clear BK294 HB; obtain ⟨HO302, BK294, HB⟩ := n_; (try clear hb); (try clear ho0)) | ((with_reducible refine gate_dst (N := 8) rfl ?_); (try (refine gate_guard (by rfl) ?_; dsimp only)); refine box_event ?hg (N := 8) ?hd (cs := #[.slice none 0 0, .int .i64 0, .int .i64 0]) (t := 52) ?hr ?_; (case hd => rfl); (case hg => rfl); (case hr => exact zH119); intro gb306 hg w31 hbox hb; have n_ := zA_ (za (zv (by (with_reducible repeat (first | apply zj | apply zk | apply zl)); exact HO302.out) hb)) (zA_ (za (zp (g := gb294) (o := .cells #[.slice none 0 0, .int .i64 0, .int .i64 0] 52 (0, 0)) zK233 hb)) (zA_ (za (zu zG100 hb)) (zA_ (za (hbox)) (zA_ (zN1 w.heap.size hg (zq zG100)) (zA_ (zN1 w.heap.size hg (zq zG100)) (zN2 hg (zz (g := gb294) (o := .cells #[.slice none 0 0, .int .i64 0, .int .i64 0] 52 (0, 0)) zK233))))))); clear HO302 BK294 HB; obtain ⟨HO302, BK294, HB, BK306, GW306, GE306, NB294_306, NB306_294⟩ := n_; clear hb hbox hg; obtain ⟨Ao32, co32, eo32⟩ := zan HO302.out; subst eo32; have hnb33 := NB306_294.out; have hnc33 := NB294_306.out; obtain ⟨hcz34_0, hcz34_1, hcz34_2, hfz34_0, hfz34_1, hfz34_2⟩ := zB3 BK306.out; obtain ⟨hcz35_0, hcz35_1, hcz35_2, hfz35_0, hfz35_1, hfz35_2⟩ := zB3 BK294.out))
     refine bodyPost_ret (results_ct rfl _ _ gb294 52 #[.slice none 0 0, .int .i64 0, .int .i64 0] (0, 0) _ rfl (by (with_reducible repeat (first | refine zc ?_ _ | refine zd ?_ | refine zb ?_ _)); refine zw (cs := #[.slice none 0 0, .int .i64 0, .int .i64 0]) ?_ 2 _ rfl; (with_reducible repeat (first | refine zc ?_ _ | refine zd ?_ | refine zb ?_ _)); refine zw (cs := #[.slice none 0 0, .int .i64 0, .int .i64 0]) ?_ 1 _ rfl; (with_reducible repeat (first | refine zc ?_ _ | refine zd ?_ | refine zb ?_ _)); refine zw (cs := #[.slice none 0 0, .int .i64 0, .int .i64 0]) ?_ 0 _ rfl; (with_reducible repeat (first | refine zc ?_ _ | refine zd ?_ | refine zb ?_ _)); refine zr ?_ NB294_306.out _; (with_reducible repeat (first | refine zc ?_ _ | refine zd ?_ | refine zb ?_ _)); refine zr ?_ NB294_306.out _; (with_reducible repeat (first | refine zc ?_ _ | refine zd ?_ | refine zb ?_ _)); refine zr ?_ NB294_306.out _; (with_reducible repeat (first | refine zc ?_ _ | refine zd ?_ | refine zb ?_ _)); exact BK294.out) Try.underlying52 rfl zG128) rfl ?_
     exact ⟨_, zH111, zH87, zH50⟩
/-! ### spec_l01In: function 122 -/
def spec_l01In.f (a0 : Int) (a1 : Int) (a2 : Int) : Option (Bool) := if a0 ≥ a1 then (some (decide (a0 ≤ a2))) else (some false)
set_option maxHeartbeats 64000000 in
set_option maxRecDepth 100000 in
theorem spec_l01In.calls (a0 : Int) (a1 : Int) (a2 : Int) (r : Bool) (w : World) (h : spec_l01In.f a0 a1 a2 = some r) :
  Calls Try.prog 122 #[.int .i64 a0, .int .i64 a1, .int .i64 a2] w fun e w' => e = .returned (.bool r) ∧ Drawn0 w w' := by
 have H : (if a0 ≥ a1 then (some (decide (a0 ≤ a2))) else (some false)) = some r := h
 clear h
 by_cases c4 : a0 ≥ a1
 ·rw [if_pos c4] at H
  have c4b0 : decide (a1 ≤ a0) = true := decide_eq_true c4
  clear c4
  obtain rfl := Option.some.inj H
  go_enter Try.func122, Try.ntmps122
  go_wp2
  go_ret
  exact zH89
 rw [if_neg c4] at H
 have c4b0 : decide (a1 ≤ a0) = false := decide_eq_false c4
 clear c4
 obtain rfl := Option.some.inj H
 go_enter Try.func122, Try.ntmps122
 go_wp2
 go_ret
 exact zH89

end Go.Proofs.Ytojncbpeeboooaa.X
