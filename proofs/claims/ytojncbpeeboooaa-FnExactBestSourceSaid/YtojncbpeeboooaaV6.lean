-- squeezed
-- made by pp.py (wip/tools) out of the translation; Lean checks it
import Derived.Test.YtojncbpeeboooaaV0
import Derived.Test.YtojncbpeeboooaaV3
import Derived.Test.YtojncbpeeboooaaV5
namespace Go.Proofs.Ytojncbpeeboooaa.V
open Go.RowKit Go.Proofs.YtojncbpeeboooaaW.PrintWords Go.Proofs.YtojncbpeeboooaaW.PrintLast Go.Proofs.YtojncbpeeboooaaW.PrintMore
attribute [local go_sem] max2_int min2_int max_two min_two max_three min_three max_four min_four   -- for this text's walks alone
set_option linter.unusedVariables false
set_option linter.unusedSimpArgs false


/-! ### impl_BestSource: function 24 -/
def impl_BestSource.j0 : Nat → Bool → List (S58) → List (S124) → Option (List Int × Int × Int × Int)
 | 0, _, _, _ => none
 | k + 1, x9, x197000, x198000 => if x9 = true then (some (([] : List Int), 0, 0, 2)) else ((impl_SourcesOK.f k x197000 x198000).bind fun t201 => (if t201 = true then ((impl_BestSource_1.f k ([] : List Int) x198000 x197000 false ([] : List Int) 0 0).bind fun bt205 => (if bt205.1 = true then (some (bt205.2.1, bt205.2.2.1, bt205.2.2.2, 0)) else (some (([] : List Int), 0, 0, 8)))) else (some (([] : List Int), 0, 0, 1))))
def impl_BestSource.f (k : Nat) (l0 : List (S58)) (l1 : List (S124)) : Option (List Int × Int × Int × Int) := (impl_Source.f l0).bind fun t199 => (if t199 = true then ((impl_Stocked_79.f l1).bind fun t200 => (impl_BestSource.j0 k (!t200) l0 l1)) else (impl_BestSource.j0 k true l0 l1))
theorem impl_BestSource.mono_l : ∀ k, (∀ y0 y1 y2, LeO (impl_BestSource.j0 k y0 y1 y2) (impl_BestSource.j0 (k + 1) y0 y1 y2))
 | 0 => fun _ _ _ r h => by simp [impl_BestSource.j0] at h
 | k + 1 => by
  have ih0 := impl_BestSource.mono_l k
  ·intro y0 y1 y2
   unfold impl_BestSource.j0
   repeat' first
   | (with_reducible exact ih0 _ _ _)
   | (with_reducible exact impl_BestSource_1.mono _ _ _ _ _ _ _ _)
   | (with_reducible exact impl_SourcesOK.mono _ _ _)
   | (with_reducible exact LeO.refl _)
   | (with_reducible exact LeO.none _)
   | (with_reducible refine LeO.ite ?_ ?_)
   | (with_reducible refine LeO.bind ?_ (fun _ => ?_))
   | exact ih0 _ _ _
   | exact impl_BestSource_1.mono _ _ _ _ _ _ _ _
   | exact impl_SourcesOK.mono _ _ _
   | exact LeO.none _
   | refine LeO.ite ?_ ?_
   | refine LeO.bind ?_ (fun _ => ?_)
theorem impl_BestSource.mono : ∀ a0 a1 k, LeO (impl_BestSource.f k a0 a1) (impl_BestSource.f (k + 1) a0 a1) := by
 intro a0 a1 k
 have ih0 := impl_BestSource.mono_l k
 unfold impl_BestSource.f
 repeat' first
   | (with_reducible exact ih0 _ _ _)
   | (with_reducible exact impl_BestSource_1.mono _ _ _ _ _ _ _ _)
   | (with_reducible exact impl_SourcesOK.mono _ _ _)
   | (with_reducible exact LeO.refl _)
   | (with_reducible exact LeO.none _)
   | (with_reducible refine LeO.ite ?_ ?_)
   | (with_reducible refine LeO.bind ?_ (fun _ => ?_))
   | exact ih0 _ _ _
   | exact impl_BestSource_1.mono _ _ _ _ _ _ _ _
   | exact impl_SourcesOK.mono _ _ _
   | exact LeO.none _
   | refine LeO.ite ?_ ?_
   | refine LeO.bind ?_ (fun _ => ?_)
set_option maxHeartbeats 64000000 in
set_option maxRecDepth 100000 in
theorem impl_BestSource.calls (k : Nat) (A0 : Option Addr) (c0 : Nat) (l0 : List (S58)) (A1 : Option Addr) (c1 : Nat) (l1 : List (S124)) (r1 : List Int) (r2 : Int) (r3 : Int) (r4 : Int) (w : World) (hr0 : Kd.C k58 w A0 l0.length l0) (hc0 : l0.length ≤ c0) (hr1 : Kd.C k124 w A1 l1.length l1) (hc1 : l1.length ≤ c1) (h : impl_BestSource.f k l0 l1 = some (r1, r2, r3, r4)) :
  Calls Try.prog 24 #[.slice A0 l0.length c0, .slice A1 l1.length c1] w fun e w' => ∃ v0_ : Value, e = .returned (.tuple #[.agg #[v0_, .int .i64 r2, .int .i64 r3], .int .i64 r4]) ∧ Kd.R (Kd.int .i64) 3 w' w.heap.size (fun _ => True) v0_ r1 ∧ Below w.heap.size w w' := by
 have hu47 := Try.underlying47
 have hu48 := Try.underlying48
 have hu52 := Try.underlying52
 have hu4 := Try.underlying4
 have hu106 := Try.underlying106
 obtain ⟨HR0, HC0, HR1, HC1, HB⟩ := zD5 hr0 hc0 hr1 hc1 (Below.refl w.heap.size w)
 clear hr0 hc0 hr1 hc1
 have H : ((impl_Source.f l0).bind fun t199 => (if t199 = true then ((impl_Stocked_79.f l1).bind fun t200 => (impl_BestSource.j0 k (!t200) l0 l1)) else (impl_BestSource.j0 k true l0 l1))) = some (r1, r2, r3, r4) := h
 clear h
 have HC3 := za H
 clear H
 go_enter Try.func24, Try.ntmps24
 go_upto_region 1 with (first | ((with_reducible refine gate_dst (N := 2) rfl ?_); refine box_event ?hg (N := 2) ?hd (cs := #[.slice A0 l0.length c0]) (t := 47) ?hr ?_; (case hd => rfl); (case hg => rfl); (case hr => exact zH124); intro gb196 hg w4 hbox hb; have n_ := zA_ (za (zq zG85 hb)) (zA_ (za (hbox)) (zA_ (zN1 w.heap.size hg (zp zG85)) (zN1 w.heap.size hg (zp zG85)))); clear HB; obtain ⟨HB, BK196, GW196, GE196⟩ := n_; clear hb hbox hg) | ((with_reducible refine gate_dst (N := 3) rfl ?_); refine box_event ?hg (N := 3) ?hd (cs := #[.slice A1 l1.length c1]) (t := 48) ?hr ?_; (case hd => rfl); (case hg => rfl); (case hr => exact zH124); intro gb197 hg w5 hbox hb; have n_ := zA_ (za (zo (g := gb196) (o := .cells #[.slice A0 l0.length c0] 47 (0, 0)) zG86 hb)) (zA_ (za (zq zK194 hb)) (zA_ (za (hbox)) (zA_ (zN1 w.heap.size hg (zp zK194)) (zA_ (zN1 w.heap.size hg (zp zK194)) (zN2 hg (zz (g := gb196) (o := .cells #[.slice A0 l0.length c0] 47 (0, 0)) zG86)))))); clear BK196 HB; obtain ⟨BK196, HB, BK197, GW197, GE197, NB196_197, NB197_196⟩ := n_; clear hb hbox hg) | ((with_reducible refine gate_dst (N := 4) rfl ?_); refine box_event ?hg (N := 4) ?hd (cs := #[.slice none 0 0, .int .i64 0, .int .i64 0]) (t := 52) ?hr ?_; (case hd => rfl); (case hg => rfl); (case hr => exact zH124); intro gb198 hg w6 hbox hb; have n_ := zA_ (za (zo (g := gb196) (o := .cells #[.slice A0 l0.length c0] 47 (0, 0)) zG86 hb)) (zA_ (za (zo (g := gb197) (o := .cells #[.slice A1 l1.length c1] 48 (0, 0)) zG87 hb)) (zA_ (za (zq zK186 hb)) (zA_ (za (hbox)) (zA_ (zN1 w.heap.size hg (zp zK186)) (zA_ (zN1 w.heap.size hg (zp zK186)) (zN3 hg (zz (g := gb196) (o := .cells #[.slice A0 l0.length c0] 47 (0, 0)) zG86) (zN2 hg (zz (g := gb197) (o := .cells #[.slice A1 l1.length c1] 48 (0, 0)) zG87)))))))); clear BK196 BK197 HB; obtain ⟨BK196, BK197, HB, BK198, GW198, GE198, NB196_198, NB198_196, NB197_198, NB198_197⟩ := n_; clear hb hbox hg))
 (try simp only [Act.put, List.setIfInBounds_toArray, List.set_cons_zero, List.set_cons_succ])
 go_cut [9] (fun v9 wc => ∃ (kq : Nat) (x9_2 : Bool), v9 = .bool x9_2 ∧ Aside0 (impl_BestSource.j0 kq x9_2 l0 l1 = some (r1, r2, r3, r4)) ∧ Aside0 (kq ≤ k) ∧ Aside0 (wc.heap[gb196]? = some (.cells #[(.slice A0 l0.length c0)] 47 (0, 0))) ∧ Aside0 (wc.heap[gb197]? = some (.cells #[(.slice A1 l1.length c1)] 48 (0, 0))) ∧ Aside0 (wc.heap[gb198]? = some (.cells #[(.slice none 0 0), .int .i64 0, .int .i64 0] 52 (0, 0))) ∧ Aside0 (Below w.heap.size w wc))
 case first =>
  have H := HC3.out
  clear HC3
  replace H := Option.bind_eq_some_iff.mp H
  obtain ⟨t199, A70, H⟩ := H
  replace H : (if t199 = true then ((impl_Stocked_79.f l1).bind fun t200 => (impl_BestSource.j0 k (!t200) l0 l1)) else (impl_BestSource.j0 k true l0 l1)) = some (r1, r2, r3, r4) := H
  have A7 := za A70
  clear A70
  by_cases c8 : t199 = true
  rotate_left
  ·replace c8 := Bool.eq_false_iff.mpr c8
   subst c8
   have H1 : (impl_BestSource.j0 k true l0 l1) = some (r1, r2, r3, r4) := by rw [if_neg (show ¬ (false = true) by decide)] at H; exact H
   clear H
   have H := H1
   clear H1
   have H' := za H
   clear H
   have hnb15 := NB196_197.out
   have hnc15 := NB197_196.out
   have hnb16 := NB196_198.out
   have hnc16 := NB198_196.out
   obtain ⟨hcz17_0, hfz17_0⟩ := zB1 BK196.out
   go_wp2_with (first | ((with_reducible refine gate_callee (f := 78) rfl ?_); refine goesL_ (some 11) rfl rfl Try.func78 zG106 rfl #[.slice A0 l0.length c0] rfl zG80 ?_; (with_reducible refine (impl_Source.calls _ _ l0 false _ ?side1 ?side2 A7.out).mono ?_); (case side1 => exact zH75); (case side2 => exact zH128); rintro e w' ⟨rfl, ⟨nd, rfl⟩⟩; refine ⟨_, rfl, ?_⟩))
   go_meet
   case rel => exact ⟨_, (true), zG105, H', ⟨zH125⟩, ⟨by (with_reducible repeat (first | refine zc ?_ _ | refine ze ?_ | refine zb ?_ _)); exact BK196.out⟩, ⟨by (with_reducible repeat (first | refine zc ?_ _ | refine ze ?_ | refine zb ?_ _)); exact BK197.out⟩, ⟨by (with_reducible repeat (first | refine zc ?_ _ | refine ze ?_ | refine zb ?_ _)); exact BK198.out⟩, ⟨zH44⟩⟩
  subst c8
  have H1 : ((impl_Stocked_79.f l1).bind fun t200 => (impl_BestSource.j0 k (!t200) l0 l1)) = some (r1, r2, r3, r4) := by rw [if_pos rfl] at H; exact H
  clear H
  have H := H1
  clear H1
  replace H := Option.bind_eq_some_iff.mp H
  obtain ⟨t200, A90, H⟩ := H
  replace H : (impl_BestSource.j0 k (!t200) l0 l1) = some (r1, r2, r3, r4) := H
  have A9 := za A90
  clear A90
  have H' := za H
  clear H
  have hnb10 := NB196_197.out
  have hnc10 := NB197_196.out
  have hnb11 := NB196_198.out
  have hnc11 := NB198_196.out
  obtain ⟨hcz12_0, hfz12_0⟩ := zB1 BK196.out
  go_wp2_with (first | ((with_reducible refine gate_callee (f := 78) rfl ?_); refine goesL_ (some 11) rfl rfl Try.func78 zG106 rfl #[.slice A0 l0.length c0] rfl zG80 ?_; (with_reducible refine (impl_Source.calls _ _ l0 true _ ?side1 ?side2 A7.out).mono ?_); (case side1 => exact zH75); (case side2 => exact zH128); rintro e w' ⟨rfl, ⟨nd, rfl⟩⟩; refine ⟨_, rfl, ?_⟩; have hnb13 := NB197_198.out; have hnc13 := NB198_197.out; obtain ⟨hcz14_0, hfz14_0⟩ := zB1 BK197.out) | (go_at_call 79; (with_reducible refine (impl_Stocked_79.calls _ _ l1 t200 _ ?side1 ?side2 A9.out).mono ?_); (case side1 => repeat (first | exact (zab HR1.out zG75) | (with_reducible refine zu ?_ _) | (with_reducible refine zv ?_ _) | (with_reducible refine zy ?_))); (case side2 => exact zH129); rintro e w' ⟨rfl, ⟨nd, rfl⟩⟩))
  go_meet
  case rel => exact ⟨_, (!t200), zG105, H', ⟨zH125⟩, ⟨by (with_reducible repeat (first | refine zc ?_ _ | refine ze ?_ | refine zb ?_ _)); exact BK196.out⟩, ⟨by (with_reducible repeat (first | refine zc ?_ _ | refine ze ?_ | refine zb ?_ _)); exact BK197.out⟩, ⟨by (with_reducible repeat (first | refine zc ?_ _ | refine ze ?_ | refine zb ?_ _)); exact BK198.out⟩, ⟨zH44⟩⟩
 case rest =>
  clear HC3
  try clear c1
  try clear c8
  try clear hcz12_0
  try clear hcz14_0
  try clear hcz17_0
  try clear hfz12_0
  try clear hfz14_0
  try clear hfz17_0
  obtain ⟨kq, x9_2, rfl, HA, HJ2, BK196, BK197, BK198, HB⟩ := hcut
  cases kq with
  | zero => exact absurd HA.out (by simp [impl_BestSource.j0])
  | succ kj2 =>
   have H := HA.out
   clear HA
   simp only [impl_BestSource.j0] at H
   by_cases c18 : x9_2 = true
   ·subst c18
    have H1 : (some (([] : List Int), 0, 0, 2)) = some (r1, r2, r3, r4) := by rw [if_pos rfl] at H; exact H
    clear H
    have H := H1
    clear H1
    simp only [Option.some.injEq, Prod.mk.injEq] at H
    obtain ⟨rfl, rfl, rfl, rfl⟩ := H
    have hnb19 := NB198_196.out
    have hnc19 := NB196_198.out
    have hnb20 := NB198_197.out
    have hnc20 := NB197_198.out
    obtain ⟨hcz21_0, hcz21_1, hcz21_2, hfz21_0, hfz21_1, hfz21_2⟩ := zB3 BK198.out
    go_wp2
    refine bodyPost_ret (results_ct rfl _ _ gb198 52 #[.slice none 0 0, .int .i64 0, .int .i64 0] (0, 0) _ rfl zK134 Try.underlying52 rfl zG106) rfl ?_
    exact zH10
   replace c18 := Bool.eq_false_iff.mpr c18
   subst c18
   have H1 : ((impl_SourcesOK.f kj2 l0 l1).bind fun t201 => (if t201 = true then ((impl_BestSource_1.f kj2 ([] : List Int) l1 l0 false ([] : List Int) 0 0).bind fun bt205 => (if bt205.1 = true then (some (bt205.2.1, bt205.2.2.1, bt205.2.2.2, 0)) else (some (([] : List Int), 0, 0, 8)))) else (some (([] : List Int), 0, 0, 1)))) = some (r1, r2, r3, r4) := by rw [if_neg (show ¬ (false = true) by decide)] at H; exact H
   clear H
   have H := H1
   clear H1
   replace H := Option.bind_eq_some_iff.mp H
   obtain ⟨t201, A220, H⟩ := H
   replace H : (if t201 = true then ((impl_BestSource_1.f kj2 ([] : List Int) l1 l0 false ([] : List Int) 0 0).bind fun bt205 => (if bt205.1 = true then (some (bt205.2.1, bt205.2.2.1, bt205.2.2.2, 0)) else (some (([] : List Int), 0, 0, 8)))) else (some (([] : List Int), 0, 0, 1))) = some (r1, r2, r3, r4) := H
   have A22 := za A220
   clear A220
   by_cases c23 : t201 = true
   rotate_left
   ·replace c23 := Bool.eq_false_iff.mpr c23
    subst c23
    have H1 : (some (([] : List Int), 0, 0, 1)) = some (r1, r2, r3, r4) := by rw [if_neg (show ¬ (false = true) by decide)] at H; exact H
    clear H
    have H := H1
    clear H1
    simp only [Option.some.injEq, Prod.mk.injEq] at H
    obtain ⟨rfl, rfl, rfl, rfl⟩ := H
    have hnb86 := NB196_197.out
    have hnc86 := NB197_196.out
    have hnb87 := NB196_198.out
    have hnc87 := NB198_196.out
    obtain ⟨hcz88_0, hfz88_0⟩ := zB1 BK196.out
    have hnb89 := NB197_198.out
    have hnc89 := NB198_197.out
    obtain ⟨hcz90_0, hfz90_0⟩ := zB1 BK197.out
    go_wp2_with (first | ((with_reducible refine gate_callee (f := 26) rfl ?_); refine goesL_ (some 22) rfl rfl Try.func26 zG106 rfl #[.slice A0 l0.length c0, .slice A1 l1.length c1] rfl zG80 ?_; (with_reducible refine (impl_SourcesOK.calls kj2 _ _ l0 _ _ l1 false _ ?side1 ?side2 ?side3 ?side4 A22.out).mono ?_); (case side1 => exact zH75); (case side2 => exact zH128); (case side3 => exact zH76); (case side4 => exact zH129); rintro e w91 ⟨rfl, hb⟩; refine ⟨_, rfl, ?_⟩; have n_ := zA_ (za (zo (g := gb196) (o := .cells #[.slice A0 l0.length c0] 47 (0, 0)) zG86 hb)) (zA_ (za (zo (g := gb197) (o := .cells #[.slice A1 l1.length c1] 48 (0, 0)) zG87 hb)) (zA_ (za (zo (g := gb198) (o := .cells #[.slice none 0 0, .int .i64 0, .int .i64 0] 52 (0, 0)) zG88 hb)) (za (zq zG75 hb)))); clear BK196 BK197 BK198 HB; obtain ⟨BK196, BK197, BK198, HB⟩ := n_; (try clear hb); obtain ⟨hcz92_0, hcz92_1, hcz92_2, hfz92_0, hfz92_1, hfz92_2⟩ := zB3 BK198.out))
    refine bodyPost_ret (results_ct rfl _ _ gb198 52 #[.slice none 0 0, .int .i64 0, .int .i64 0] (0, 0) _ rfl zK134 Try.underlying52 rfl zG106) rfl ?_
    exact zH10

   subst c23
   have H1 : ((impl_BestSource_1.f kj2 ([] : List Int) l1 l0 false ([] : List Int) 0 0).bind fun bt205 => (if bt205.1 = true then (some (bt205.2.1, bt205.2.2.1, bt205.2.2.2, 0)) else (some (([] : List Int), 0, 0, 8)))) = some (r1, r2, r3, r4) := by rw [if_pos rfl] at H; exact H
   clear H
   have H := H1
   clear H1
   replace H := Option.bind_eq_some_iff.mp H
   obtain ⟨⟨t205, t206, t209, t210⟩, A240, H⟩ := H
   replace H : (if t205 = true then (some (t206, t209, t210, 0)) else (some (([] : List Int), 0, 0, 8))) = some (r1, r2, r3, r4) := H
   have A24 := za A240
   clear A240
   by_cases c25 : t205 = true
   ·subst c25
    have H1 : (some (t206, t209, t210, 0)) = some (r1, r2, r3, r4) := by rw [if_pos rfl] at H; exact H
    clear H
    have H := H1
    clear H1
    simp only [Option.some.injEq, Prod.mk.injEq] at H
    obtain ⟨rfl, rfl, rfl, rfl⟩ := H
    have hnb26 := NB196_197.out
    have hnc26 := NB197_196.out
    have hnb27 := NB196_198.out
    have hnc27 := NB198_196.out
    obtain ⟨hcz28_0, hfz28_0⟩ := zB1 BK196.out
    have hnb29 := NB197_198.out
    have hnc29 := NB198_197.out
    obtain ⟨hcz30_0, hfz30_0⟩ := zB1 BK197.out
    go_wp2_with (first | ((with_reducible refine gate_callee (f := 26) rfl ?_); refine goesL_ (some 22) rfl rfl Try.func26 zG106 rfl #[.slice A0 l0.length c0, .slice A1 l1.length c1] rfl zG80 ?_; (with_reducible refine (impl_SourcesOK.calls kj2 _ _ l0 _ _ l1 true _ ?side1 ?side2 ?side3 ?side4 A22.out).mono ?_); (case side1 => exact zH75); (case side2 => exact zH128); (case side3 => exact zH76); (case side4 => exact zH129); rintro e w31 ⟨rfl, hb⟩; refine ⟨_, rfl, ?_⟩; have n_ := zA_ (za (zo (g := gb196) (o := .cells #[.slice A0 l0.length c0] 47 (0, 0)) zG86 hb)) (zA_ (za (zo (g := gb197) (o := .cells #[.slice A1 l1.length c1] 48 (0, 0)) zG87 hb)) (zA_ (za (zo (g := gb198) (o := .cells #[.slice none 0 0, .int .i64 0, .int .i64 0] 52 (0, 0)) zG88 hb)) (za (zq zG75 hb)))); clear BK196 BK197 BK198 HB; obtain ⟨BK196, BK197, BK198, HB⟩ := n_; (try clear hb)) | ((with_reducible refine gate_dst (N := 6) rfl ?_); refine box_event ?hg (N := 6) ?hd (cs := #[.slice none 0 0, .int .i64 0, .int .i64 0]) (t := 52) ?hr ?_; (case hd => rfl); (case hg => rfl); (case hr => exact zH124); intro gb202 hg w32 hbox hb; have n_ := zA_ (za (zo (g := gb196) (o := .cells #[.slice A0 l0.length c0] 47 (0, 0)) zG86 hb)) (zA_ (za (zo (g := gb197) (o := .cells #[.slice A1 l1.length c1] 48 (0, 0)) zG87 hb)) (zA_ (za (zo (g := gb198) (o := .cells #[.slice none 0 0, .int .i64 0, .int .i64 0] 52 (0, 0)) zG88 hb)) (zA_ (za (zq zG75 hb)) (zA_ (za (hbox)) (zA_ (zN1 w.heap.size hg (zp zG75)) (zA_ (zN1 w.heap.size hg (zp zG75)) (zN3 hg (zz (g := gb196) (o := .cells #[.slice A0 l0.length c0] 47 (0, 0)) zG86) (zN3 hg (zz (g := gb197) (o := .cells #[.slice A1 l1.length c1] 48 (0, 0)) zG87) (zN2 hg (zz (g := gb198) (o := .cells #[.slice none 0 0, .int .i64 0, .int .i64 0] 52 (0, 0)) zG88)))))))))); clear BK196 BK197 BK198 HB; obtain ⟨BK196, BK197, BK198, HB, BK202, GW202, GE202, NB196_202, NB202_196, NB197_202, NB202_197, NB198_202, NB202_198⟩ := n_; clear hb hbox hg) | ((with_reducible refine gate_dst (N := 7) rfl ?_); refine box_event ?hg (N := 7) ?hd (cs := #[.bool false]) (t := 4) ?hr ?_; (case hd => rfl); (case hg => rfl); (case hr => exact zH124); intro gb203 hg w33 hbox hb; have n_ := zA_ (za (zo (g := gb196) (o := .cells #[.slice A0 l0.length c0] 47 (0, 0)) zG86 hb)) (zA_ (za (zo (g := gb197) (o := .cells #[.slice A1 l1.length c1] 48 (0, 0)) zG87 hb)) (zA_ (za (zo (g := gb198) (o := .cells #[.slice none 0 0, .int .i64 0, .int .i64 0] 52 (0, 0)) zG88 hb)) (zA_ (za (zo (g := gb202) (o := .cells #[.slice none 0 0, .int .i64 0, .int .i64 0] 52 (0, 0)) zK212 hb)) (zA_ (za (zq zK181 hb)) (zA_ (za (hbox)) (zA_ (zN1 w.heap.size hg (zp zK181)) (zA_ (zN1 w.heap.size hg (zp zK181)) (zN3 hg (zz (g := gb196) (o := .cells #[.slice A0 l0.length c0] 47 (0, 0)) zG86) (zN3 hg (zz (g := gb197) (o := .cells #[.slice A1 l1.length c1] 48 (0, 0)) zG87) (zN3 hg (zz (g := gb198) (o := .cells #[.slice none 0 0, .int .i64 0, .int .i64 0] 52 (0, 0)) zG88) (zN2 hg (zz (g := gb202) (o := .cells #[.slice none 0 0, .int .i64 0, .int .i64 0] 52 (0, 0)) zK212)))))))))))); clear BK196 BK197 BK198 BK202 HB; obtain ⟨BK196, BK197, BK198, BK202, HB, BK203, GW203, GE203, NB196_203, NB203_196, NB197_203, NB203_197, NB198_203, NB203_198, NB202_203, NB203_202⟩ := n_; clear hb hbox hg; have hnb34 := NB202_196.out; have hnc34 := NB196_202.out; have hnb35 := NB202_197.out; have hnc35 := NB197_202.out; have hnb36 := NB202_198.out; have hnc36 := NB198_202.out; have hnb37 := NB202_203.out; have hnc37 := NB203_202.out; obtain ⟨hcz38_0, hcz38_1, hcz38_2, hfz38_0, hfz38_1, hfz38_2⟩ := zB3 BK202.out; have hnb39 := NB203_196.out; have hnc39 := NB196_203.out; have hnb40 := NB203_197.out; have hnc40 := NB197_203.out; have hnb41 := NB203_198.out; have hnc41 := NB198_203.out; obtain ⟨hcz42_0, hfz42_0⟩ := zB1 BK203.out) | ((with_reducible refine gate_dst (N := 8) rfl ?_); refine box_event ?hg (N := 8) ?hd (cs := #[.nilFunc]) (t := 106) ?hr ?_; (case hd => rfl); (case hg => rfl); (case hr => exact zH124); intro gb204 hg w43 hbox hb; have n_ := zA_ (za (zo (g := gb196) (o := .cells #[.slice A0 l0.length c0] 47 (0, 0)) zK138 hb)) (zA_ (za (zo (g := gb197) (o := .cells #[.slice A1 l1.length c1] 48 (0, 0)) zK139 hb)) (zA_ (za (zo (g := gb198) (o := .cells #[.slice none 0 0, .int .i64 0, .int .i64 0] 52 (0, 0)) zK140 hb)) (zA_ (za (zo (g := gb202) (o := .cells #[.slice none 0 0, .int .i64 0, .int .i64 0] 52 (0, 0)) zK130 hb)) (zA_ (za (zo (g := gb203) (o := .cells #[.bool false] 4 (0, 0)) zK137 hb)) (zA_ (za (zq zK179 hb)) (zA_ (za (hbox)) (zA_ (zN1 w.heap.size hg (zp zK179)) (zA_ (zN1 w.heap.size hg (zp zK179)) (zN3 hg (zz (g := gb196) (o := .cells #[.slice A0 l0.length c0] 47 (0, 0)) zK138) (zN3 hg (zz (g := gb197) (o := .cells #[.slice A1 l1.length c1] 48 (0, 0)) zK139) (zN3 hg (zz (g := gb198) (o := .cells #[.slice none 0 0, .int .i64 0, .int .i64 0] 52 (0, 0)) zK140) (zN3 hg (zz (g := gb202) (o := .cells #[.slice none 0 0, .int .i64 0, .int .i64 0] 52 (0, 0)) zK130) (zN2 hg (zz (g := gb203) (o := .cells #[.bool false] 4 (0, 0)) zK137)))))))))))))); clear BK196 BK197 BK198 BK202 BK203 HB; obtain ⟨BK196, BK197, BK198, BK202, BK203, HB, BK204, GW204, GE204, NB196_204, NB204_196, NB197_204, NB204_197, NB198_204, NB204_198, NB202_204, NB204_202, NB203_204, NB204_203⟩ := n_; clear hb hbox hg; have hnb44 := NB204_196.out; have hnc44 := NB196_204.out; have hnb45 := NB204_197.out; have hnc45 := NB197_204.out; have hnb46 := NB204_198.out; have hnc46 := NB198_204.out; have hnb47 := NB204_202.out; have hnc47 := NB202_204.out; have hnb48 := NB204_203.out; have hnc48 := NB203_204.out; obtain ⟨hcz49_0, hfz49_0⟩ := zB1 BK204.out) | ((with_reducible refine gate_store (t := 106) (p := 8) rfl ?_); refine store_event (t := 106) (p := 8) (v := ?vo_w50) (w1 := (w43.setCell ⟨gb204, 0, none⟩ (.func (.func 80) #[] #[.pointer (some ⟨gb197, 0, none⟩), .pointer (some ⟨gb196, 0, none⟩), .pointer (some ⟨gb203, 0, none⟩), .pointer (some ⟨gb202, 0, none⟩), .pointer (some ⟨gb204, 0, none⟩)]))) ?hg ?ho ?hn ?hr ?_; (case ho => rfl); (case hg => rfl); (case hn => rfl); (case hr => exact zH124); intro w50 hw; have n0_ : Aside0 (w50.heap[gb196]? = some (.cells #[.slice A0 l0.length c0] 47 (0, 0))) := ⟨zK174⟩; have n1_ : Aside0 (w50.heap[gb197]? = some (.cells #[.slice A1 l1.length c1] 48 (0, 0))) := ⟨zK175⟩; have n2_ : Aside0 (w50.heap[gb198]? = some (.cells #[.slice none 0 0, .int .i64 0, .int .i64 0] 52 (0, 0))) := ⟨zK176⟩; have n3_ : Aside0 (w50.heap[gb202]? = some (.cells #[.slice none 0 0, .int .i64 0, .int .i64 0] 52 (0, 0))) := ⟨zK177⟩; have n4_ : Aside0 (w50.heap[gb203]? = some (.cells #[.bool false] 4 (0, 0))) := ⟨zK178⟩; have n5_ : Aside0 (w50.heap[gb204]? = some (.cells #[.func (.func 80) #[] #[.pointer (some ⟨gb197, 0, none⟩), .pointer (some ⟨gb196, 0, none⟩), .pointer (some ⟨gb203, 0, none⟩), .pointer (some ⟨gb202, 0, none⟩), .pointer (some ⟨gb204, 0, none⟩)]] 106 (0, 0))) := ⟨zK173⟩; have n6_ : Aside0 (Below w.heap.size w w50) := ⟨zK170⟩; clear hw BK196; clear BK197 BK198; clear BK202 BK203; clear BK204 HB; have BK196 := n0_; have BK197 := n1_; have BK198 := n2_; have BK202 := n3_; have BK203 := n4_; have BK204 := n5_; have HB := n6_; clear n0_ n1_ n2_ n3_ n4_ n5_ n6_; obtain ⟨hcz51_0, hfz51_0⟩ := zB1 BK204.out) | (go_at_call 80; (refine (impl_BestSource_1.calls kj2 _ _ ([] : List Int) gb197 A1 c1 l1 gb196 A0 c0 l0 gb203 false gb202 (fun k_ => some k_ = (.slice none 0 0 : Value).ownBlock) (.slice none 0 0) ([] : List Int) 0 0 gb204 true t206 t209 t210 w _ ?side1 ?side2 ?side3 ?side4 ?side5 ?side6 ?side7 ?side8 ?side9 ?side10 ?side11 ?side12 ?side13 ?side14 ?side15 ?side16 ?side17 ?side18 ?side19 ?side20 ?side21 ?side22 ?side23 ?side24 ?side25 A24.out).mono ?_); (case side1 => exact zH29); (case side2 => exact Kd.C_kept_nil); (case side3 => exact Nat.le_refl _); (case side4 => exact zG87); (case side5 => exact zH6); (case side6 => exact zH129); (case side7 => exact zG86); (case side8 => exact NB197_196.out); (case side9 => exact zH7); (case side10 => exact zH128); (case side11 => exact zH97); (case side12 => exact GE203.out); (case side13 => exact NB197_203.out); (case side14 => exact NB196_203.out); (case side15 => exact zH96); (case side16 => exact GE202.out); (case side17 => exact NB197_202.out); (case side18 => exact NB196_202.out); (case side19 => exact NB203_202.out); (case side20 => exact zat _ _ _ _ _); (case side21 => exact zH98); (case side22 => exact NB197_204.out); (case side23 => exact NB196_204.out); (case side24 => exact NB203_204.out); (case side25 => exact NB202_204.out); rintro e w52 ⟨v207, rfl, ho0, hz0, hz1, hb, hkp⟩; have n_ := zA_ (za (zaq zG86 hkp (fun hs_ => Or.elim hs_ (fun hs_ => Or.elim hs_ (fun hs_ => (fun e_ => by simp [Value.ownBlock] at e_) hs_) (fun e_ => NB196_203.out e_)) (fun e_ => NB196_202.out e_)))) (zA_ (za (zaq zG87 hkp (fun hs_ => Or.elim hs_ (fun hs_ => Or.elim hs_ (fun hs_ => (fun e_ => by simp [Value.ownBlock] at e_) hs_) (fun e_ => NB197_203.out e_)) (fun e_ => NB197_202.out e_)))) (zA_ (za (zaq zG88 hkp (fun hs_ => Or.elim hs_ (fun hs_ => Or.elim hs_ (fun hs_ => (fun e_ => by simp [Value.ownBlock] at e_) hs_) (fun e_ => NB198_203.out e_)) (fun e_ => NB198_202.out e_)))) (zA_ (za (hz1)) (zA_ (za (hz0)) (zA_ (za (zaq (by (with_reducible repeat (first | refine zc ?_ _ | refine ze ?_ | refine zb ?_ _)); exact BK204.out) hkp (fun hs_ => Or.elim hs_ (fun hs_ => Or.elim hs_ (fun hs_ => (fun e_ => by simp [Value.ownBlock] at e_) hs_) (fun e_ => NB204_203.out e_)) (fun e_ => NB204_202.out e_)))) (zA_ (za (zx (ok' := fun k_ => True) ho0 (fun k_ hk_ => trivial))) (za (hb)))))))); clear BK196 BK197 BK198 BK202 BK203 BK204 HB; obtain ⟨BK196, BK197, BK198, BK202, BK203, BK204, HO208, HB⟩ := n_; (try clear hb); (try clear hkp); (try clear ho0); (try clear hz0); (try clear hz1); obtain ⟨hcz53_0, hfz53_0⟩ := zB1 BK203.out; obtain ⟨hcz54_0, hcz54_1, hcz54_2, hfz54_0, hfz54_1, hfz54_2⟩ := zB3 BK202.out; obtain ⟨Ao55, co55, eo55⟩ := zaf HO208.out; subst eo55; obtain ⟨hcz56_0, hcz56_1, hcz56_2, hfz56_0, hfz56_1, hfz56_2⟩ := zB3 BK198.out))
    refine bodyPost_ret (results_ct rfl _ _ gb198 52 #[.slice Ao55 t206.length co55, .int .i64 t209, .int .i64 t210] (0, 0) _ rfl (by (with_reducible repeat (first | refine zc ?_ _ | refine ze ?_ | refine zb ?_ _)); refine zw (cs := #[.slice Ao55 t206.length co55, .int .i64 t209, .int .i64 0]) ?_ 2 _ rfl; (with_reducible repeat (first | refine zc ?_ _ | refine ze ?_ | refine zb ?_ _)); refine zw (cs := #[.slice Ao55 t206.length co55, .int .i64 0, .int .i64 0]) ?_ 1 _ rfl; (with_reducible repeat (first | refine zc ?_ _ | refine ze ?_ | refine zb ?_ _)); refine zw (cs := #[.slice none 0 0, .int .i64 0, .int .i64 0]) ?_ 0 _ rfl; (with_reducible repeat (first | refine zc ?_ _ | refine ze ?_ | refine zb ?_ _)); exact BK198.out) Try.underlying52 rfl zG106) rfl ?_
    exact ⟨_, zH115, by (with_reducible repeat (first | apply zl | apply zm | apply zn)); exact zx (zr (p := ⟨gb198, 2, none⟩) (zr (p := ⟨gb198, 1, none⟩) (zr (p := ⟨gb198, 0, none⟩) (zaa HO208.out BK198.out zG107) (fun _ hk => hk.2) (.slice Ao55 t206.length co55)) (fun _ hk => hk.2) (.int .i64 t209)) (fun _ hk => hk.2) (.int .i64 t210)) (fun _ hk => trivial), zH28⟩
   replace c25 := Bool.eq_false_iff.mpr c25
   subst c25
   have H1 : (some (([] : List Int), 0, 0, 8)) = some (r1, r2, r3, r4) := by rw [if_neg (show ¬ (false = true) by decide)] at H; exact H
   clear H
   have H := H1
   clear H1
   simp only [Option.some.injEq, Prod.mk.injEq] at H
   obtain ⟨rfl, rfl, rfl, rfl⟩ := H
   have hnb57 := NB196_197.out
   have hnc57 := NB197_196.out
   have hnb58 := NB196_198.out
   have hnc58 := NB198_196.out
   obtain ⟨hcz59_0, hfz59_0⟩ := zB1 BK196.out
   have hnb60 := NB197_198.out
   have hnc60 := NB198_197.out
   obtain ⟨hcz61_0, hfz61_0⟩ := zB1 BK197.out
   go_wp2_with (first | ((with_reducible refine gate_callee (f := 26) rfl ?_); refine goesL_ (some 22) rfl rfl Try.func26 zG106 rfl #[.slice A0 l0.length c0, .slice A1 l1.length c1] rfl zG80 ?_; (with_reducible refine (impl_SourcesOK.calls kj2 _ _ l0 _ _ l1 true _ ?side1 ?side2 ?side3 ?side4 A22.out).mono ?_); (case side1 => exact zH75); (case side2 => exact zH128); (case side3 => exact zH76); (case side4 => exact zH129); rintro e w62 ⟨rfl, hb⟩; refine ⟨_, rfl, ?_⟩; have n_ := zA_ (za (zo (g := gb196) (o := .cells #[.slice A0 l0.length c0] 47 (0, 0)) zG86 hb)) (zA_ (za (zo (g := gb197) (o := .cells #[.slice A1 l1.length c1] 48 (0, 0)) zG87 hb)) (zA_ (za (zo (g := gb198) (o := .cells #[.slice none 0 0, .int .i64 0, .int .i64 0] 52 (0, 0)) zG88 hb)) (za (zq zG75 hb)))); clear BK196 BK197 BK198 HB; obtain ⟨BK196, BK197, BK198, HB⟩ := n_; (try clear hb)) | ((with_reducible refine gate_dst (N := 6) rfl ?_); refine box_event ?hg (N := 6) ?hd (cs := #[.slice none 0 0, .int .i64 0, .int .i64 0]) (t := 52) ?hr ?_; (case hd => rfl); (case hg => rfl); (case hr => exact zH124); intro gb202 hg w63 hbox hb; have n_ := zA_ (za (zo (g := gb196) (o := .cells #[.slice A0 l0.length c0] 47 (0, 0)) zG86 hb)) (zA_ (za (zo (g := gb197) (o := .cells #[.slice A1 l1.length c1] 48 (0, 0)) zG87 hb)) (zA_ (za (zo (g := gb198) (o := .cells #[.slice none 0 0, .int .i64 0, .int .i64 0] 52 (0, 0)) zG88 hb)) (zA_ (za (zq zG75 hb)) (zA_ (za (hbox)) (zA_ (zN1 w.heap.size hg (zp zG75)) (zA_ (zN1 w.heap.size hg (zp zG75)) (zN3 hg (zz (g := gb196) (o := .cells #[.slice A0 l0.length c0] 47 (0, 0)) zG86) (zN3 hg (zz (g := gb197) (o := .cells #[.slice A1 l1.length c1] 48 (0, 0)) zG87) (zN2 hg (zz (g := gb198) (o := .cells #[.slice none 0 0, .int .i64 0, .int .i64 0] 52 (0, 0)) zG88)))))))))); clear BK196 BK197 BK198 HB; obtain ⟨BK196, BK197, BK198, HB, BK202, GW202, GE202, NB196_202, NB202_196, NB197_202, NB202_197, NB198_202, NB202_198⟩ := n_; clear hb hbox hg) | ((with_reducible refine gate_dst (N := 7) rfl ?_); refine box_event ?hg (N := 7) ?hd (cs := #[.bool false]) (t := 4) ?hr ?_; (case hd => rfl); (case hg => rfl); (case hr => exact zH124); intro gb203 hg w64 hbox hb; have n_ := zA_ (za (zo (g := gb196) (o := .cells #[.slice A0 l0.length c0] 47 (0, 0)) zG86 hb)) (zA_ (za (zo (g := gb197) (o := .cells #[.slice A1 l1.length c1] 48 (0, 0)) zG87 hb)) (zA_ (za (zo (g := gb198) (o := .cells #[.slice none 0 0, .int .i64 0, .int .i64 0] 52 (0, 0)) zG88 hb)) (zA_ (za (zo (g := gb202) (o := .cells #[.slice none 0 0, .int .i64 0, .int .i64 0] 52 (0, 0)) zK212 hb)) (zA_ (za (zq zK181 hb)) (zA_ (za (hbox)) (zA_ (zN1 w.heap.size hg (zp zK181)) (zA_ (zN1 w.heap.size hg (zp zK181)) (zN3 hg (zz (g := gb196) (o := .cells #[.slice A0 l0.length c0] 47 (0, 0)) zG86) (zN3 hg (zz (g := gb197) (o := .cells #[.slice A1 l1.length c1] 48 (0, 0)) zG87) (zN3 hg (zz (g := gb198) (o := .cells #[.slice none 0 0, .int .i64 0, .int .i64 0] 52 (0, 0)) zG88) (zN2 hg (zz (g := gb202) (o := .cells #[.slice none 0 0, .int .i64 0, .int .i64 0] 52 (0, 0)) zK212)))))))))))); clear BK196 BK197 BK198 BK202 HB; obtain ⟨BK196, BK197, BK198, BK202, HB, BK203, GW203, GE203, NB196_203, NB203_196, NB197_203, NB203_197, NB198_203, NB203_198, NB202_203, NB203_202⟩ := n_; clear hb hbox hg; have hnb65 := NB202_196.out; have hnc65 := NB196_202.out; have hnb66 := NB202_197.out; have hnc66 := NB197_202.out; have hnb67 := NB202_198.out; have hnc67 := NB198_202.out; have hnb68 := NB202_203.out; have hnc68 := NB203_202.out; obtain ⟨hcz69_0, hcz69_1, hcz69_2, hfz69_0, hfz69_1, hfz69_2⟩ := zB3 BK202.out; have hnb70 := NB203_196.out; have hnc70 := NB196_203.out; have hnb71 := NB203_197.out; have hnc71 := NB197_203.out; have hnb72 := NB203_198.out; have hnc72 := NB198_203.out; obtain ⟨hcz73_0, hfz73_0⟩ := zB1 BK203.out) | ((with_reducible refine gate_dst (N := 8) rfl ?_); refine box_event ?hg (N := 8) ?hd (cs := #[.nilFunc]) (t := 106) ?hr ?_; (case hd => rfl); (case hg => rfl); (case hr => exact zH124); intro gb204 hg w74 hbox hb; have n_ := zA_ (za (zo (g := gb196) (o := .cells #[.slice A0 l0.length c0] 47 (0, 0)) zK138 hb)) (zA_ (za (zo (g := gb197) (o := .cells #[.slice A1 l1.length c1] 48 (0, 0)) zK139 hb)) (zA_ (za (zo (g := gb198) (o := .cells #[.slice none 0 0, .int .i64 0, .int .i64 0] 52 (0, 0)) zK140 hb)) (zA_ (za (zo (g := gb202) (o := .cells #[.slice none 0 0, .int .i64 0, .int .i64 0] 52 (0, 0)) zK130 hb)) (zA_ (za (zo (g := gb203) (o := .cells #[.bool false] 4 (0, 0)) zK137 hb)) (zA_ (za (zq zK179 hb)) (zA_ (za (hbox)) (zA_ (zN1 w.heap.size hg (zp zK179)) (zA_ (zN1 w.heap.size hg (zp zK179)) (zN3 hg (zz (g := gb196) (o := .cells #[.slice A0 l0.length c0] 47 (0, 0)) zK138) (zN3 hg (zz (g := gb197) (o := .cells #[.slice A1 l1.length c1] 48 (0, 0)) zK139) (zN3 hg (zz (g := gb198) (o := .cells #[.slice none 0 0, .int .i64 0, .int .i64 0] 52 (0, 0)) zK140) (zN3 hg (zz (g := gb202) (o := .cells #[.slice none 0 0, .int .i64 0, .int .i64 0] 52 (0, 0)) zK130) (zN2 hg (zz (g := gb203) (o := .cells #[.bool false] 4 (0, 0)) zK137)))))))))))))); clear BK196 BK197 BK198 BK202 BK203 HB; obtain ⟨BK196, BK197, BK198, BK202, BK203, HB, BK204, GW204, GE204, NB196_204, NB204_196, NB197_204, NB204_197, NB198_204, NB204_198, NB202_204, NB204_202, NB203_204, NB204_203⟩ := n_; clear hb hbox hg; have hnb75 := NB204_196.out; have hnc75 := NB196_204.out; have hnb76 := NB204_197.out; have hnc76 := NB197_204.out; have hnb77 := NB204_198.out; have hnc77 := NB198_204.out; have hnb78 := NB204_202.out; have hnc78 := NB202_204.out; have hnb79 := NB204_203.out; have hnc79 := NB203_204.out; obtain ⟨hcz80_0, hfz80_0⟩ := zB1 BK204.out) | ((with_reducible refine gate_store (t := 106) (p := 8) rfl ?_); refine store_event (t := 106) (p := 8) (v := ?vo_w81) (w1 := (w74.setCell ⟨gb204, 0, none⟩ (.func (.func 80) #[] #[.pointer (some ⟨gb197, 0, none⟩), .pointer (some ⟨gb196, 0, none⟩), .pointer (some ⟨gb203, 0, none⟩), .pointer (some ⟨gb202, 0, none⟩), .pointer (some ⟨gb204, 0, none⟩)]))) ?hg ?ho ?hn ?hr ?_; (case ho => rfl); (case hg => rfl); (case hn => rfl); (case hr => exact zH124); intro w81 hw; have n0_ : Aside0 (w81.heap[gb196]? = some (.cells #[.slice A0 l0.length c0] 47 (0, 0))) := ⟨zK174⟩; have n1_ : Aside0 (w81.heap[gb197]? = some (.cells #[.slice A1 l1.length c1] 48 (0, 0))) := ⟨zK175⟩; have n2_ : Aside0 (w81.heap[gb198]? = some (.cells #[.slice none 0 0, .int .i64 0, .int .i64 0] 52 (0, 0))) := ⟨zK176⟩; have n3_ : Aside0 (w81.heap[gb202]? = some (.cells #[.slice none 0 0, .int .i64 0, .int .i64 0] 52 (0, 0))) := ⟨zK177⟩; have n4_ : Aside0 (w81.heap[gb203]? = some (.cells #[.bool false] 4 (0, 0))) := ⟨zK178⟩; have n5_ : Aside0 (w81.heap[gb204]? = some (.cells #[.func (.func 80) #[] #[.pointer (some ⟨gb197, 0, none⟩), .pointer (some ⟨gb196, 0, none⟩), .pointer (some ⟨gb203, 0, none⟩), .pointer (some ⟨gb202, 0, none⟩), .pointer (some ⟨gb204, 0, none⟩)]] 106 (0, 0))) := ⟨zK173⟩; have n6_ : Aside0 (Below w.heap.size w w81) := ⟨zK170⟩; clear hw BK196; clear BK197 BK198; clear BK202 BK203; clear BK204 HB; have BK196 := n0_; have BK197 := n1_; have BK198 := n2_; have BK202 := n3_; have BK203 := n4_; have BK204 := n5_; have HB := n6_; clear n0_ n1_ n2_ n3_ n4_ n5_ n6_; obtain ⟨hcz82_0, hfz82_0⟩ := zB1 BK204.out) | (go_at_call 80; (refine (impl_BestSource_1.calls kj2 _ _ ([] : List Int) gb197 A1 c1 l1 gb196 A0 c0 l0 gb203 false gb202 (fun k_ => some k_ = (.slice none 0 0 : Value).ownBlock) (.slice none 0 0) ([] : List Int) 0 0 gb204 false t206 t209 t210 w _ ?side1 ?side2 ?side3 ?side4 ?side5 ?side6 ?side7 ?side8 ?side9 ?side10 ?side11 ?side12 ?side13 ?side14 ?side15 ?side16 ?side17 ?side18 ?side19 ?side20 ?side21 ?side22 ?side23 ?side24 ?side25 A24.out).mono ?_); (case side1 => exact zH29); (case side2 => exact Kd.C_kept_nil); (case side3 => exact Nat.le_refl _); (case side4 => exact zG87); (case side5 => exact zH6); (case side6 => exact zH129); (case side7 => exact zG86); (case side8 => exact NB197_196.out); (case side9 => exact zH7); (case side10 => exact zH128); (case side11 => exact zH97); (case side12 => exact GE203.out); (case side13 => exact NB197_203.out); (case side14 => exact NB196_203.out); (case side15 => exact zH96); (case side16 => exact GE202.out); (case side17 => exact NB197_202.out); (case side18 => exact NB196_202.out); (case side19 => exact NB203_202.out); (case side20 => exact zat _ _ _ _ _); (case side21 => exact zH98); (case side22 => exact NB197_204.out); (case side23 => exact NB196_204.out); (case side24 => exact NB203_204.out); (case side25 => exact NB202_204.out); rintro e w83 ⟨v207, rfl, ho0, hz0, hz1, hb, hkp⟩; have n_ := zA_ (za (zaq zG86 hkp (fun hs_ => Or.elim hs_ (fun hs_ => Or.elim hs_ (fun hs_ => (fun e_ => by simp [Value.ownBlock] at e_) hs_) (fun e_ => NB196_203.out e_)) (fun e_ => NB196_202.out e_)))) (zA_ (za (zaq zG87 hkp (fun hs_ => Or.elim hs_ (fun hs_ => Or.elim hs_ (fun hs_ => (fun e_ => by simp [Value.ownBlock] at e_) hs_) (fun e_ => NB197_203.out e_)) (fun e_ => NB197_202.out e_)))) (zA_ (za (zaq zG88 hkp (fun hs_ => Or.elim hs_ (fun hs_ => Or.elim hs_ (fun hs_ => (fun e_ => by simp [Value.ownBlock] at e_) hs_) (fun e_ => NB198_203.out e_)) (fun e_ => NB198_202.out e_)))) (zA_ (za (hz1)) (zA_ (za (hz0)) (zA_ (za (zaq (by (with_reducible repeat (first | refine zc ?_ _ | refine ze ?_ | refine zb ?_ _)); exact BK204.out) hkp (fun hs_ => Or.elim hs_ (fun hs_ => Or.elim hs_ (fun hs_ => (fun e_ => by simp [Value.ownBlock] at e_) hs_) (fun e_ => NB204_203.out e_)) (fun e_ => NB204_202.out e_)))) (zA_ (za (zx (ok' := fun k_ => True) ho0 (fun k_ hk_ => trivial))) (za (hb)))))))); clear BK196 BK197 BK198 BK202 BK203 BK204 HB; obtain ⟨BK196, BK197, BK198, BK202, BK203, BK204, HO208, HB⟩ := n_; (try clear hb); (try clear hkp); (try clear ho0); (try clear hz0); (try clear hz1); obtain ⟨hcz84_0, hfz84_0⟩ := zB1 BK203.out; obtain ⟨hcz85_0, hcz85_1, hcz85_2, hfz85_0, hfz85_1, hfz85_2⟩ := zB3 BK198.out))
   refine bodyPost_ret (results_ct rfl _ _ gb198 52 #[.slice none 0 0, .int .i64 0, .int .i64 0] (0, 0) _ rfl zK134 Try.underlying52 rfl zG106) rfl ?_
   exact ⟨_, zH115, zH90, zH28⟩
/-! ### spec_l01In: function 122 -/
def spec_l01In.f (a0 : Int) (a1 : Int) (a2 : Int) : Option (Bool) := if a0 ≥ a1 then (some (decide (a0 ≤ a2))) else (some false)
set_option maxHeartbeats 64000000 in
set_option maxRecDepth 100000 in
theorem spec_l01In.calls (a0 : Int) (a1 : Int) (a2 : Int) (r : Bool) (w : World) (h : spec_l01In.f a0 a1 a2 = some r) :
  Calls Try.prog 122 #[.int .i64 a0, .int .i64 a1, .int .i64 a2] w fun e w' => e = .returned (.bool r) ∧ Drawn0 w w' := by
 have H : (if a0 ≥ a1 then (some (decide (a0 ≤ a2))) else (some false)) = some r := h
 clear h
 by_cases c4 : a0 ≥ a1
 ·rw [if_pos c4] at H
  have c4b0 : decide (a1 ≤ a0) = true := decide_eq_true c4
  clear c4
  obtain rfl := Option.some.inj H
  go_enter Try.func122, Try.ntmps122
  go_wp2
  go_ret
  exact zH91
 rw [if_neg c4] at H
 have c4b0 : decide (a1 ≤ a0) = false := decide_eq_false c4
 clear c4
 obtain rfl := Option.some.inj H
 go_enter Try.func122, Try.ntmps122
 go_wp2
 go_ret
 exact zH91

end Go.Proofs.Ytojncbpeeboooaa.V
