-- squeezed
-- made by pp.py (wip/tools) out of the translation; Lean checks it
import Derived.Test.YtojncbpeeboooaaY0
import Derived.Test.YtojncbpeeboooaaY2
import Derived.Test.YtojncbpeeboooaaY5
import Derived.Test.YtojncbpeeboooaaY6
import Derived.Test.YtojncbpeeboooaaY7
import Derived.Test.YtojncbpeeboooaaY8
namespace Go.Proofs.Ytojncbpeeboooaa.Y
open Go.RowKit Go.Proofs.YtojncbpeeboooaaW.PrintWords Go.Proofs.YtojncbpeeboooaaW.PrintLast Go.Proofs.YtojncbpeeboooaaW.PrintMore
attribute [local go_sem] max2_int min2_int max_two min_two max_three min_three max_four min_four   -- for this text's walks alone
set_option linter.unusedVariables false
set_option linter.unusedSimpArgs false


/-! ### impl_BestRoster: function 29 -/
def impl_BestRoster.j0 : Nat → Bool → List (S139) → List (S72) → Option (List Int × Int × Int)
 | 0, _, _, _ => none
 | k + 1, x9, x284000, x285000 => if x9 = true then (some (([] : List Int), 0, 2)) else ((impl_ShiftsOK.f k x284000 x285000).bind fun t288 => (if t288 = true then ((impl_BestRoster_1.f k ([] : List Int) x284000 x285000 false ([] : List Int) 0).bind fun bt292 => (if bt292.1 = true then (some (bt292.2.1, bt292.2.2, 0)) else (some (([] : List Int), 0, 8)))) else (some (([] : List Int), 0, 1))))
def impl_BestRoster.f (k : Nat) (l0 : List (S139)) (l1 : List (S72)) : Option (List Int × Int × Int) := (impl_Shift.f l0).bind fun t286 => (if t286 = true then ((impl_Worker.f l1).bind fun t287 => (impl_BestRoster.j0 k (!t287) l0 l1)) else (impl_BestRoster.j0 k true l0 l1))
theorem impl_BestRoster.mono_l : ∀ k, (∀ y0 y1 y2, LeO (impl_BestRoster.j0 k y0 y1 y2) (impl_BestRoster.j0 (k + 1) y0 y1 y2))
 | 0 => fun _ _ _ r h => by simp [impl_BestRoster.j0] at h
 | k + 1 => by
  have ih0 := impl_BestRoster.mono_l k
  ·intro y0 y1 y2
   unfold impl_BestRoster.j0
   repeat' first
   | (with_reducible exact ih0 _ _ _)
   | (with_reducible exact impl_BestRoster_1.mono _ _ _ _ _ _ _)
   | (with_reducible exact impl_ShiftsOK.mono _ _ _)
   | (with_reducible exact LeO.refl _)
   | (with_reducible exact LeO.none _)
   | (with_reducible refine LeO.ite ?_ ?_)
   | (with_reducible refine LeO.bind ?_ (fun _ => ?_))
   | exact ih0 _ _ _
   | exact impl_BestRoster_1.mono _ _ _ _ _ _ _
   | exact impl_ShiftsOK.mono _ _ _
   | exact LeO.none _
   | refine LeO.ite ?_ ?_
   | refine LeO.bind ?_ (fun _ => ?_)
theorem impl_BestRoster.mono : ∀ a0 a1 k, LeO (impl_BestRoster.f k a0 a1) (impl_BestRoster.f (k + 1) a0 a1) := by
 intro a0 a1 k
 have ih0 := impl_BestRoster.mono_l k
 unfold impl_BestRoster.f
 repeat' first
   | (with_reducible exact ih0 _ _ _)
   | (with_reducible exact impl_BestRoster_1.mono _ _ _ _ _ _ _)
   | (with_reducible exact impl_ShiftsOK.mono _ _ _)
   | (with_reducible exact LeO.refl _)
   | (with_reducible exact LeO.none _)
   | (with_reducible refine LeO.ite ?_ ?_)
   | (with_reducible refine LeO.bind ?_ (fun _ => ?_))
   | exact ih0 _ _ _
   | exact impl_BestRoster_1.mono _ _ _ _ _ _ _
   | exact impl_ShiftsOK.mono _ _ _
   | exact LeO.none _
   | refine LeO.ite ?_ ?_
   | refine LeO.bind ?_ (fun _ => ?_)
set_option maxHeartbeats 64000000 in
set_option maxRecDepth 100000 in
theorem impl_BestRoster.calls (k : Nat) (A0 : Option Addr) (c0 : Nat) (l0 : List (S139)) (A1 : Option Addr) (c1 : Nat) (l1 : List (S72)) (r1 : List Int) (r2 : Int) (r3 : Int) (w : World) (hr0 : Kd.C k139 w A0 l0.length l0) (hc0 : l0.length ≤ c0) (hr1 : Kd.C k72 w A1 l1.length l1) (hc1 : l1.length ≤ c1) (h : impl_BestRoster.f k l0 l1 = some (r1, r2, r3)) :
  Calls Try.prog 29 #[.slice A0 l0.length c0, .slice A1 l1.length c1] w fun e w' => ∃ v0_ : Value, e = .returned (.tuple #[.agg #[v0_, .int .i64 r2], .int .i64 r3]) ∧ Kd.R (Kd.int .i64) 3 w' w.heap.size (fun _ => True) v0_ r1 ∧ Below w.heap.size w w' := by
 have hu59 := Try.underlying59
 have hu60 := Try.underlying60
 have hu64 := Try.underlying64
 have hu4 := Try.underlying4
 have hu106 := Try.underlying106
 obtain ⟨HR0, HC0, HR1, HC1, HB⟩ := zD5 hr0 hc0 hr1 hc1 (Below.refl w.heap.size w)
 clear hr0 hc0 hr1 hc1
 have H : ((impl_Shift.f l0).bind fun t286 => (if t286 = true then ((impl_Worker.f l1).bind fun t287 => (impl_BestRoster.j0 k (!t287) l0 l1)) else (impl_BestRoster.j0 k true l0 l1))) = some (r1, r2, r3) := h
 clear h
 have HC3 := za H
 clear H
 go_enter Try.func29, Try.ntmps29
 go_upto_region 1 with (first | ((with_reducible refine gate_dst (N := 2) rfl ?_); refine box_event ?hg (N := 2) ?hd (cs := #[.slice A0 l0.length c0]) (t := 59) ?hr ?_; (case hd => rfl); (case hg => rfl); (case hr => exact zH125); intro gb283 hg w4 hbox hb; have n_ := zA_ (za (zr zG102 hb)) (zA_ (za (hbox)) (zA_ (zN1 w.heap.size hg (zo zG102)) (zN1 w.heap.size hg (zo zG102)))); clear HB; obtain ⟨HB, BK283, GW283, GE283⟩ := n_; clear hb hbox hg) | ((with_reducible refine gate_dst (N := 3) rfl ?_); refine box_event ?hg (N := 3) ?hd (cs := #[.slice A1 l1.length c1]) (t := 60) ?hr ?_; (case hd => rfl); (case hg => rfl); (case hr => exact zH125); intro gb284 hg w5 hbox hb; have n_ := zA_ (za (zp (g := gb283) (o := .cells #[.slice A0 l0.length c0] 59 (0, 0)) zG103 hb)) (zA_ (za (zr zK218 hb)) (zA_ (za (hbox)) (zA_ (zN1 w.heap.size hg (zo zK218)) (zA_ (zN1 w.heap.size hg (zo zK218)) (zN2 hg (zae (g := gb283) (o := .cells #[.slice A0 l0.length c0] 59 (0, 0)) zG103)))))); clear BK283 HB; obtain ⟨BK283, HB, BK284, GW284, GE284, NB283_284, NB284_283⟩ := n_; clear hb hbox hg) | ((with_reducible refine gate_dst (N := 4) rfl ?_); refine box_event ?hg (N := 4) ?hd (cs := #[.slice none 0 0, .int .i64 0]) (t := 64) ?hr ?_; (case hd => rfl); (case hg => rfl); (case hr => exact zH125); intro gb285 hg w6 hbox hb; have n_ := zA_ (za (zp (g := gb283) (o := .cells #[.slice A0 l0.length c0] 59 (0, 0)) zG103 hb)) (zA_ (za (zp (g := gb284) (o := .cells #[.slice A1 l1.length c1] 60 (0, 0)) zG104 hb)) (zA_ (za (zr zK213 hb)) (zA_ (za (hbox)) (zA_ (zN1 w.heap.size hg (zo zK213)) (zA_ (zN1 w.heap.size hg (zo zK213)) (zN3 hg (zae (g := gb283) (o := .cells #[.slice A0 l0.length c0] 59 (0, 0)) zG103) (zN2 hg (zae (g := gb284) (o := .cells #[.slice A1 l1.length c1] 60 (0, 0)) zG104)))))))); clear BK283 BK284 HB; obtain ⟨BK283, BK284, HB, BK285, GW285, GE285, NB283_285, NB285_283, NB284_285, NB285_284⟩ := n_; clear hb hbox hg))
 (try simp only [Act.put, List.setIfInBounds_toArray, List.set_cons_zero, List.set_cons_succ])
 go_cut [9] (fun v9 wc => ∃ (kq : Nat) (x9_2 : Bool), v9 = .bool x9_2 ∧ Aside0 (impl_BestRoster.j0 kq x9_2 l0 l1 = some (r1, r2, r3)) ∧ Aside0 (kq ≤ k) ∧ Aside0 (wc.heap[gb283]? = some (.cells #[(.slice A0 l0.length c0)] 59 (0, 0))) ∧ Aside0 (wc.heap[gb284]? = some (.cells #[(.slice A1 l1.length c1)] 60 (0, 0))) ∧ Aside0 (wc.heap[gb285]? = some (.cells #[(.slice none 0 0), .int .i64 0] 64 (0, 0))) ∧ Aside0 (Below w.heap.size w wc))
 case first =>
  have H := HC3.out
  clear HC3
  replace H := Option.bind_eq_some_iff.mp H
  obtain ⟨t286, A70, H⟩ := H
  replace H : (if t286 = true then ((impl_Worker.f l1).bind fun t287 => (impl_BestRoster.j0 k (!t287) l0 l1)) else (impl_BestRoster.j0 k true l0 l1)) = some (r1, r2, r3) := H
  have A7 := za A70
  clear A70
  by_cases c8 : t286 = true
  rotate_left
  ·replace c8 := Bool.eq_false_iff.mpr c8
   subst c8
   have H1 : (impl_BestRoster.j0 k true l0 l1) = some (r1, r2, r3) := by rw [if_neg (show ¬ (false = true) by decide)] at H; exact H
   clear H
   have H := H1
   clear H1
   have H' := za H
   clear H
   have hnb15 := NB283_284.out
   have hnc15 := NB284_283.out
   have hnb16 := NB283_285.out
   have hnc16 := NB285_283.out
   obtain ⟨hcz17_0, hfz17_0⟩ := zB1 BK283.out
   go_wp2_with (first | ((with_reducible refine gate_callee (f := 94) rfl ?_); refine goesL_ (some 11) rfl rfl Try.func94 zG130 rfl #[.slice A0 l0.length c0] rfl zG93 ?_; (with_reducible refine (impl_Shift.calls _ _ l0 false _ ?side1 ?side2 A7.out).mono ?_); (case side1 => exact zH63); (case side2 => exact HC0.out); rintro e w' ⟨rfl, ⟨nd, rfl⟩⟩; refine ⟨_, rfl, ?_⟩))
   go_meet
   case rel => exact ⟨_, (true), zG129, H', ⟨zH126⟩, ⟨by (with_reducible repeat (first | refine zd ?_ _ | refine zg ?_ | refine ze ?_ _)); exact BK283.out⟩, ⟨by (with_reducible repeat (first | refine zd ?_ _ | refine zg ?_ | refine ze ?_ _)); exact BK284.out⟩, ⟨by (with_reducible repeat (first | refine zd ?_ _ | refine zg ?_ | refine ze ?_ _)); exact BK285.out⟩, ⟨zH41⟩⟩
  subst c8
  have H1 : ((impl_Worker.f l1).bind fun t287 => (impl_BestRoster.j0 k (!t287) l0 l1)) = some (r1, r2, r3) := by rw [if_pos rfl] at H; exact H
  clear H
  have H := H1
  clear H1
  replace H := Option.bind_eq_some_iff.mp H
  obtain ⟨t287, A90, H⟩ := H
  replace H : (impl_BestRoster.j0 k (!t287) l0 l1) = some (r1, r2, r3) := H
  have A9 := za A90
  clear A90
  have H' := za H
  clear H
  have hnb10 := NB283_284.out
  have hnc10 := NB284_283.out
  have hnb11 := NB283_285.out
  have hnc11 := NB285_283.out
  obtain ⟨hcz12_0, hfz12_0⟩ := zB1 BK283.out
  go_wp2_with (first | ((with_reducible refine gate_callee (f := 94) rfl ?_); refine goesL_ (some 11) rfl rfl Try.func94 zG130 rfl #[.slice A0 l0.length c0] rfl zG93 ?_; (with_reducible refine (impl_Shift.calls _ _ l0 true _ ?side1 ?side2 A7.out).mono ?_); (case side1 => exact zH63); (case side2 => exact HC0.out); rintro e w' ⟨rfl, ⟨nd, rfl⟩⟩; refine ⟨_, rfl, ?_⟩; have hnb13 := NB284_285.out; have hnc13 := NB285_284.out; obtain ⟨hcz14_0, hfz14_0⟩ := zB1 BK284.out) | (go_at_call 95; (with_reducible refine (impl_Worker.calls _ _ l1 t287 _ ?side1 ?side2 A9.out).mono ?_); (case side1 => repeat (first | exact (zah HR1.out zG89) | (with_reducible refine zaa ?_ _) | (with_reducible refine zab ?_ _) | (with_reducible refine zac ?_))); (case side2 => exact HC1.out); rintro e w' ⟨rfl, ⟨nd, rfl⟩⟩))
  go_meet
  case rel => exact ⟨_, (!t287), zG129, H', ⟨zH126⟩, ⟨by (with_reducible repeat (first | refine zd ?_ _ | refine zg ?_ | refine ze ?_ _)); exact BK283.out⟩, ⟨by (with_reducible repeat (first | refine zd ?_ _ | refine zg ?_ | refine ze ?_ _)); exact BK284.out⟩, ⟨by (with_reducible repeat (first | refine zd ?_ _ | refine zg ?_ | refine ze ?_ _)); exact BK285.out⟩, ⟨zH41⟩⟩
 case rest =>
  clear HC3
  try clear c1
  try clear c8
  try clear hcz12_0
  try clear hcz14_0
  try clear hcz17_0
  try clear hfz12_0
  try clear hfz14_0
  try clear hfz17_0
  obtain ⟨kq, x9_2, rfl, HA, HJ2, BK283, BK284, BK285, HB⟩ := hcut
  cases kq with
  | zero => exact absurd HA.out (by simp [impl_BestRoster.j0])
  | succ kj2 =>
   have H := HA.out
   clear HA
   simp only [impl_BestRoster.j0] at H
   by_cases c18 : x9_2 = true
   ·subst c18
    have H1 : (some (([] : List Int), 0, 2)) = some (r1, r2, r3) := by rw [if_pos rfl] at H; exact H
    clear H
    have H := H1
    clear H1
    simp only [Option.some.injEq, Prod.mk.injEq] at H
    obtain ⟨rfl, rfl, rfl⟩ := H
    have hnb19 := NB285_283.out
    have hnc19 := NB283_285.out
    have hnb20 := NB285_284.out
    have hnc20 := NB284_285.out
    obtain ⟨hcz21_0, hcz21_1, hfz21_0, hfz21_1⟩ := zB2 BK285.out
    go_wp2
    refine bodyPost_ret (results_ct rfl _ _ gb285 64 #[.slice none 0 0, .int .i64 0] (0, 0) _ rfl zK146 Try.underlying64 rfl zG130) rfl ?_
    exact zH14
   replace c18 := Bool.eq_false_iff.mpr c18
   subst c18
   have H1 : ((impl_ShiftsOK.f kj2 l0 l1).bind fun t288 => (if t288 = true then ((impl_BestRoster_1.f kj2 ([] : List Int) l0 l1 false ([] : List Int) 0).bind fun bt292 => (if bt292.1 = true then (some (bt292.2.1, bt292.2.2, 0)) else (some (([] : List Int), 0, 8)))) else (some (([] : List Int), 0, 1)))) = some (r1, r2, r3) := by rw [if_neg (show ¬ (false = true) by decide)] at H; exact H
   clear H
   have H := H1
   clear H1
   replace H := Option.bind_eq_some_iff.mp H
   obtain ⟨t288, A220, H⟩ := H
   replace H : (if t288 = true then ((impl_BestRoster_1.f kj2 ([] : List Int) l0 l1 false ([] : List Int) 0).bind fun bt292 => (if bt292.1 = true then (some (bt292.2.1, bt292.2.2, 0)) else (some (([] : List Int), 0, 8)))) else (some (([] : List Int), 0, 1))) = some (r1, r2, r3) := H
   have A22 := za A220
   clear A220
   by_cases c23 : t288 = true
   rotate_left
   ·replace c23 := Bool.eq_false_iff.mpr c23
    subst c23
    have H1 : (some (([] : List Int), 0, 1)) = some (r1, r2, r3) := by rw [if_neg (show ¬ (false = true) by decide)] at H; exact H
    clear H
    have H := H1
    clear H1
    simp only [Option.some.injEq, Prod.mk.injEq] at H
    obtain ⟨rfl, rfl, rfl⟩ := H
    have hnb86 := NB283_284.out
    have hnc86 := NB284_283.out
    have hnb87 := NB283_285.out
    have hnc87 := NB285_283.out
    obtain ⟨hcz88_0, hfz88_0⟩ := zB1 BK283.out
    have hnb89 := NB284_285.out
    have hnc89 := NB285_284.out
    obtain ⟨hcz90_0, hfz90_0⟩ := zB1 BK284.out
    go_wp2_with (first | ((with_reducible refine gate_callee (f := 31) rfl ?_); refine goesL_ (some 22) rfl rfl Try.func31 zG130 rfl #[.slice A0 l0.length c0, .slice A1 l1.length c1] rfl zG93 ?_; (with_reducible refine (impl_ShiftsOK.calls kj2 _ _ l0 _ _ l1 false _ ?side1 ?side2 ?side3 ?side4 A22.out).mono ?_); (case side1 => exact zH63); (case side2 => exact HC0.out); (case side3 => exact zH62); (case side4 => exact HC1.out); rintro e w91 ⟨rfl, hb⟩; refine ⟨_, rfl, ?_⟩; have n_ := zA_ (za (zp (g := gb283) (o := .cells #[.slice A0 l0.length c0] 59 (0, 0)) zG103 hb)) (zA_ (za (zp (g := gb284) (o := .cells #[.slice A1 l1.length c1] 60 (0, 0)) zG104 hb)) (zA_ (za (zp (g := gb285) (o := .cells #[.slice none 0 0, .int .i64 0] 64 (0, 0)) zG105 hb)) (za (zr zG89 hb)))); clear BK283 BK284 BK285 HB; obtain ⟨BK283, BK284, BK285, HB⟩ := n_; (try clear hb); obtain ⟨hcz92_0, hcz92_1, hfz92_0, hfz92_1⟩ := zB2 BK285.out))
    refine bodyPost_ret (results_ct rfl _ _ gb285 64 #[.slice none 0 0, .int .i64 0] (0, 0) _ rfl zK146 Try.underlying64 rfl zG130) rfl ?_
    exact zH14

   subst c23
   have H1 : ((impl_BestRoster_1.f kj2 ([] : List Int) l0 l1 false ([] : List Int) 0).bind fun bt292 => (if bt292.1 = true then (some (bt292.2.1, bt292.2.2, 0)) else (some (([] : List Int), 0, 8)))) = some (r1, r2, r3) := by rw [if_pos rfl] at H; exact H
   clear H
   have H := H1
   clear H1
   replace H := Option.bind_eq_some_iff.mp H
   obtain ⟨⟨t292, t293, t296⟩, A240, H⟩ := H
   replace H : (if t292 = true then (some (t293, t296, 0)) else (some (([] : List Int), 0, 8))) = some (r1, r2, r3) := H
   have A24 := za A240
   clear A240
   by_cases c25 : t292 = true
   ·subst c25
    have H1 : (some (t293, t296, 0)) = some (r1, r2, r3) := by rw [if_pos rfl] at H; exact H
    clear H
    have H := H1
    clear H1
    simp only [Option.some.injEq, Prod.mk.injEq] at H
    obtain ⟨rfl, rfl, rfl⟩ := H
    have hnb26 := NB283_284.out
    have hnc26 := NB284_283.out
    have hnb27 := NB283_285.out
    have hnc27 := NB285_283.out
    obtain ⟨hcz28_0, hfz28_0⟩ := zB1 BK283.out
    have hnb29 := NB284_285.out
    have hnc29 := NB285_284.out
    obtain ⟨hcz30_0, hfz30_0⟩ := zB1 BK284.out
    go_wp2_with (first | ((with_reducible refine gate_callee (f := 31) rfl ?_); refine goesL_ (some 22) rfl rfl Try.func31 zG130 rfl #[.slice A0 l0.length c0, .slice A1 l1.length c1] rfl zG93 ?_; (with_reducible refine (impl_ShiftsOK.calls kj2 _ _ l0 _ _ l1 true _ ?side1 ?side2 ?side3 ?side4 A22.out).mono ?_); (case side1 => exact zH63); (case side2 => exact HC0.out); (case side3 => exact zH62); (case side4 => exact HC1.out); rintro e w31 ⟨rfl, hb⟩; refine ⟨_, rfl, ?_⟩; have n_ := zA_ (za (zp (g := gb283) (o := .cells #[.slice A0 l0.length c0] 59 (0, 0)) zG103 hb)) (zA_ (za (zp (g := gb284) (o := .cells #[.slice A1 l1.length c1] 60 (0, 0)) zG104 hb)) (zA_ (za (zp (g := gb285) (o := .cells #[.slice none 0 0, .int .i64 0] 64 (0, 0)) zG105 hb)) (za (zr zG89 hb)))); clear BK283 BK284 BK285 HB; obtain ⟨BK283, BK284, BK285, HB⟩ := n_; (try clear hb)) | ((with_reducible refine gate_dst (N := 6) rfl ?_); refine box_event ?hg (N := 6) ?hd (cs := #[.slice none 0 0, .int .i64 0]) (t := 64) ?hr ?_; (case hd => rfl); (case hg => rfl); (case hr => exact zH125); intro gb289 hg w32 hbox hb; have n_ := zA_ (za (zp (g := gb283) (o := .cells #[.slice A0 l0.length c0] 59 (0, 0)) zG103 hb)) (zA_ (za (zp (g := gb284) (o := .cells #[.slice A1 l1.length c1] 60 (0, 0)) zG104 hb)) (zA_ (za (zp (g := gb285) (o := .cells #[.slice none 0 0, .int .i64 0] 64 (0, 0)) zG105 hb)) (zA_ (za (zr zG89 hb)) (zA_ (za (hbox)) (zA_ (zN1 w.heap.size hg (zo zG89)) (zA_ (zN1 w.heap.size hg (zo zG89)) (zN3 hg (zae (g := gb283) (o := .cells #[.slice A0 l0.length c0] 59 (0, 0)) zG103) (zN3 hg (zae (g := gb284) (o := .cells #[.slice A1 l1.length c1] 60 (0, 0)) zG104) (zN2 hg (zae (g := gb285) (o := .cells #[.slice none 0 0, .int .i64 0] 64 (0, 0)) zG105)))))))))); clear BK283 BK284 BK285 HB; obtain ⟨BK283, BK284, BK285, HB, BK289, GW289, GE289, NB283_289, NB289_283, NB284_289, NB289_284, NB285_289, NB289_285⟩ := n_; clear hb hbox hg) | ((with_reducible refine gate_dst (N := 7) rfl ?_); refine box_event ?hg (N := 7) ?hd (cs := #[.bool false]) (t := 4) ?hr ?_; (case hd => rfl); (case hg => rfl); (case hr => exact zH125); intro gb290 hg w33 hbox hb; have n_ := zA_ (za (zp (g := gb283) (o := .cells #[.slice A0 l0.length c0] 59 (0, 0)) zG103 hb)) (zA_ (za (zp (g := gb284) (o := .cells #[.slice A1 l1.length c1] 60 (0, 0)) zG104 hb)) (zA_ (za (zp (g := gb285) (o := .cells #[.slice none 0 0, .int .i64 0] 64 (0, 0)) zG105 hb)) (zA_ (za (zp (g := gb289) (o := .cells #[.slice none 0 0, .int .i64 0] 64 (0, 0)) zK238 hb)) (zA_ (za (zr zK211 hb)) (zA_ (za (hbox)) (zA_ (zN1 w.heap.size hg (zo zK211)) (zA_ (zN1 w.heap.size hg (zo zK211)) (zN3 hg (zae (g := gb283) (o := .cells #[.slice A0 l0.length c0] 59 (0, 0)) zG103) (zN3 hg (zae (g := gb284) (o := .cells #[.slice A1 l1.length c1] 60 (0, 0)) zG104) (zN3 hg (zae (g := gb285) (o := .cells #[.slice none 0 0, .int .i64 0] 64 (0, 0)) zG105) (zN2 hg (zae (g := gb289) (o := .cells #[.slice none 0 0, .int .i64 0] 64 (0, 0)) zK238)))))))))))); clear BK283 BK284 BK285 BK289 HB; obtain ⟨BK283, BK284, BK285, BK289, HB, BK290, GW290, GE290, NB283_290, NB290_283, NB284_290, NB290_284, NB285_290, NB290_285, NB289_290, NB290_289⟩ := n_; clear hb hbox hg; have hnb34 := NB289_283.out; have hnc34 := NB283_289.out; have hnb35 := NB289_284.out; have hnc35 := NB284_289.out; have hnb36 := NB289_285.out; have hnc36 := NB285_289.out; have hnb37 := NB289_290.out; have hnc37 := NB290_289.out; obtain ⟨hcz38_0, hcz38_1, hfz38_0, hfz38_1⟩ := zB2 BK289.out; have hnb39 := NB290_283.out; have hnc39 := NB283_290.out; have hnb40 := NB290_284.out; have hnc40 := NB284_290.out; have hnb41 := NB290_285.out; have hnc41 := NB285_290.out; obtain ⟨hcz42_0, hfz42_0⟩ := zB1 BK290.out) | ((with_reducible refine gate_dst (N := 8) rfl ?_); refine box_event ?hg (N := 8) ?hd (cs := #[.nilFunc]) (t := 106) ?hr ?_; (case hd => rfl); (case hg => rfl); (case hr => exact zH125); intro gb291 hg w43 hbox hb; have n_ := zA_ (za (zp (g := gb283) (o := .cells #[.slice A0 l0.length c0] 59 (0, 0)) zK137 hb)) (zA_ (za (zp (g := gb284) (o := .cells #[.slice A1 l1.length c1] 60 (0, 0)) zK138 hb)) (zA_ (za (zp (g := gb285) (o := .cells #[.slice none 0 0, .int .i64 0] 64 (0, 0)) zK139 hb)) (zA_ (za (zp (g := gb289) (o := .cells #[.slice none 0 0, .int .i64 0] 64 (0, 0)) zK135 hb)) (zA_ (za (zp (g := gb290) (o := .cells #[.bool false] 4 (0, 0)) zK136 hb)) (zA_ (za (zr zK209 hb)) (zA_ (za (hbox)) (zA_ (zN1 w.heap.size hg (zo zK209)) (zA_ (zN1 w.heap.size hg (zo zK209)) (zN3 hg (zae (g := gb283) (o := .cells #[.slice A0 l0.length c0] 59 (0, 0)) zK137) (zN3 hg (zae (g := gb284) (o := .cells #[.slice A1 l1.length c1] 60 (0, 0)) zK138) (zN3 hg (zae (g := gb285) (o := .cells #[.slice none 0 0, .int .i64 0] 64 (0, 0)) zK139) (zN3 hg (zae (g := gb289) (o := .cells #[.slice none 0 0, .int .i64 0] 64 (0, 0)) zK135) (zN2 hg (zae (g := gb290) (o := .cells #[.bool false] 4 (0, 0)) zK136)))))))))))))); clear BK283 BK284 BK285 BK289 BK290 HB; obtain ⟨BK283, BK284, BK285, BK289, BK290, HB, BK291, GW291, GE291, NB283_291, NB291_283, NB284_291, NB291_284, NB285_291, NB291_285, NB289_291, NB291_289, NB290_291, NB291_290⟩ := n_; clear hb hbox hg; have hnb44 := NB291_283.out; have hnc44 := NB283_291.out; have hnb45 := NB291_284.out; have hnc45 := NB284_291.out; have hnb46 := NB291_285.out; have hnc46 := NB285_291.out; have hnb47 := NB291_289.out; have hnc47 := NB289_291.out; have hnb48 := NB291_290.out; have hnc48 := NB290_291.out; obtain ⟨hcz49_0, hfz49_0⟩ := zB1 BK291.out) | ((with_reducible refine gate_store (t := 106) (p := 8) rfl ?_); refine store_event (t := 106) (p := 8) (v := ?vo_w50) (w1 := (w43.setCell ⟨gb291, 0, none⟩ (.func (.func 96) #[] #[.pointer (some ⟨gb283, 0, none⟩), .pointer (some ⟨gb284, 0, none⟩), .pointer (some ⟨gb290, 0, none⟩), .pointer (some ⟨gb289, 0, none⟩), .pointer (some ⟨gb291, 0, none⟩)]))) ?hg ?ho ?hn ?hr ?_; (case ho => rfl); (case hg => rfl); (case hn => rfl); (case hr => exact zH125); intro w50 hw; have n0_ : Aside0 (w50.heap[gb283]? = some (.cells #[.slice A0 l0.length c0] 59 (0, 0))) := ⟨zK204⟩; have n1_ : Aside0 (w50.heap[gb284]? = some (.cells #[.slice A1 l1.length c1] 60 (0, 0))) := ⟨zK205⟩; have n2_ : Aside0 (w50.heap[gb285]? = some (.cells #[.slice none 0 0, .int .i64 0] 64 (0, 0))) := ⟨zK206⟩; have n3_ : Aside0 (w50.heap[gb289]? = some (.cells #[.slice none 0 0, .int .i64 0] 64 (0, 0))) := ⟨zK207⟩; have n4_ : Aside0 (w50.heap[gb290]? = some (.cells #[.bool false] 4 (0, 0))) := ⟨zK208⟩; have n5_ : Aside0 (w50.heap[gb291]? = some (.cells #[.func (.func 96) #[] #[.pointer (some ⟨gb283, 0, none⟩), .pointer (some ⟨gb284, 0, none⟩), .pointer (some ⟨gb290, 0, none⟩), .pointer (some ⟨gb289, 0, none⟩), .pointer (some ⟨gb291, 0, none⟩)]] 106 (0, 0))) := ⟨zK202⟩; have n6_ : Aside0 (Below w.heap.size w w50) := ⟨zK186⟩; clear hw BK283; clear BK284 BK285; clear BK289 BK290; clear BK291 HB; have BK283 := n0_; have BK284 := n1_; have BK285 := n2_; have BK289 := n3_; have BK290 := n4_; have BK291 := n5_; have HB := n6_; clear n0_ n1_ n2_ n3_ n4_ n5_ n6_; obtain ⟨hcz51_0, hfz51_0⟩ := zB1 BK291.out) | (go_at_call 96; (refine (impl_BestRoster_1.calls kj2 _ _ ([] : List Int) gb283 A0 c0 l0 gb284 A1 c1 l1 gb290 false gb289 (fun k_ => some k_ = (.slice none 0 0 : Value).ownBlock) (.slice none 0 0) ([] : List Int) 0 gb291 true t293 t296 w _ ?side1 ?side2 ?side3 ?side4 ?side5 ?side6 ?side7 ?side8 ?side9 ?side10 ?side11 ?side12 ?side13 ?side14 ?side15 ?side16 ?side17 ?side18 ?side19 ?side20 ?side21 ?side22 ?side23 ?side24 ?side25 A24.out).mono ?_); (case side1 => exact zH27); (case side2 => exact Kd.C_kept_nil); (case side3 => exact Nat.le_refl _); (case side4 => exact zG103); (case side5 => exact zH7); (case side6 => exact HC0.out); (case side7 => exact zG104); (case side8 => exact NB283_284.out); (case side9 => exact zH8); (case side10 => exact HC1.out); (case side11 => exact zH94); (case side12 => exact GE290.out); (case side13 => exact NB283_290.out); (case side14 => exact NB284_290.out); (case side15 => exact zH93); (case side16 => exact GE289.out); (case side17 => exact NB283_289.out); (case side18 => exact NB284_289.out); (case side19 => exact NB290_289.out); (case side20 => exact zbi _ _ _ _ _); (case side21 => exact zH95); (case side22 => exact NB283_291.out); (case side23 => exact NB284_291.out); (case side24 => exact NB290_291.out); (case side25 => exact NB289_291.out); rintro e w52 ⟨v294, rfl, ho0, hz0, hz1, hb, hkp⟩; have n_ := zA_ (za (zbl zG103 hkp (fun hs_ => Or.elim hs_ (fun hs_ => Or.elim hs_ (fun hs_ => (fun e_ => by simp [Value.ownBlock] at e_) hs_) (fun e_ => NB283_290.out e_)) (fun e_ => NB283_289.out e_)))) (zA_ (za (zbl zG104 hkp (fun hs_ => Or.elim hs_ (fun hs_ => Or.elim hs_ (fun hs_ => (fun e_ => by simp [Value.ownBlock] at e_) hs_) (fun e_ => NB284_290.out e_)) (fun e_ => NB284_289.out e_)))) (zA_ (za (zbl zG105 hkp (fun hs_ => Or.elim hs_ (fun hs_ => Or.elim hs_ (fun hs_ => (fun e_ => by simp [Value.ownBlock] at e_) hs_) (fun e_ => NB285_290.out e_)) (fun e_ => NB285_289.out e_)))) (zA_ (za (hz1)) (zA_ (za (hz0)) (zA_ (za (zbl (by (with_reducible repeat (first | refine zd ?_ _ | refine zg ?_ | refine ze ?_ _)); exact BK291.out) hkp (fun hs_ => Or.elim hs_ (fun hs_ => Or.elim hs_ (fun hs_ => (fun e_ => by simp [Value.ownBlock] at e_) hs_) (fun e_ => NB291_290.out e_)) (fun e_ => NB291_289.out e_)))) (zA_ (za (zt (ok' := fun k_ => True) ho0 (fun k_ hk_ => trivial))) (za (hb)))))))); clear BK283 BK284 BK285 BK289 BK290 BK291 HB; obtain ⟨BK283, BK284, BK285, BK289, BK290, BK291, HO295, HB⟩ := n_; (try clear hb); (try clear hkp); (try clear ho0); (try clear hz0); (try clear hz1); obtain ⟨hcz53_0, hfz53_0⟩ := zB1 BK290.out; obtain ⟨hcz54_0, hcz54_1, hfz54_0, hfz54_1⟩ := zB2 BK289.out; obtain ⟨Ao55, co55, eo55⟩ := zal HO295.out; subst eo55; obtain ⟨hcz56_0, hcz56_1, hfz56_0, hfz56_1⟩ := zB2 BK285.out))
    refine bodyPost_ret (results_ct rfl _ _ gb285 64 #[.slice Ao55 t293.length co55, .int .i64 t296] (0, 0) _ rfl (by (with_reducible repeat (first | refine zd ?_ _ | refine zg ?_ | refine ze ?_ _)); refine zu (cs := #[.slice Ao55 t293.length co55, .int .i64 0]) ?_ 1 _ rfl; (with_reducible repeat (first | refine zd ?_ _ | refine zg ?_ | refine ze ?_ _)); refine zu (cs := #[.slice none 0 0, .int .i64 0]) ?_ 0 _ rfl; (with_reducible repeat (first | refine zd ?_ _ | refine zg ?_ | refine ze ?_ _)); exact BK285.out) Try.underlying64 rfl zG130) rfl ?_
    exact ⟨_, zH113, by (with_reducible repeat (first | apply zl | apply zm | apply zn)); exact zt (zs (p := ⟨gb285, 1, none⟩) (zs (p := ⟨gb285, 0, none⟩) (zv HO295.out BK285.out zG131) (fun _ hk => hk.2) (.slice Ao55 t293.length co55)) (fun _ hk => hk.2) (.int .i64 t296)) (fun _ hk => trivial), zH26⟩
   replace c25 := Bool.eq_false_iff.mpr c25
   subst c25
   have H1 : (some (([] : List Int), 0, 8)) = some (r1, r2, r3) := by rw [if_neg (show ¬ (false = true) by decide)] at H; exact H
   clear H
   have H := H1
   clear H1
   simp only [Option.some.injEq, Prod.mk.injEq] at H
   obtain ⟨rfl, rfl, rfl⟩ := H
   have hnb57 := NB283_284.out
   have hnc57 := NB284_283.out
   have hnb58 := NB283_285.out
   have hnc58 := NB285_283.out
   obtain ⟨hcz59_0, hfz59_0⟩ := zB1 BK283.out
   have hnb60 := NB284_285.out
   have hnc60 := NB285_284.out
   obtain ⟨hcz61_0, hfz61_0⟩ := zB1 BK284.out
   go_wp2_with (first | ((with_reducible refine gate_callee (f := 31) rfl ?_); refine goesL_ (some 22) rfl rfl Try.func31 zG130 rfl #[.slice A0 l0.length c0, .slice A1 l1.length c1] rfl zG93 ?_; (with_reducible refine (impl_ShiftsOK.calls kj2 _ _ l0 _ _ l1 true _ ?side1 ?side2 ?side3 ?side4 A22.out).mono ?_); (case side1 => exact zH63); (case side2 => exact HC0.out); (case side3 => exact zH62); (case side4 => exact HC1.out); rintro e w62 ⟨rfl, hb⟩; refine ⟨_, rfl, ?_⟩; have n_ := zA_ (za (zp (g := gb283) (o := .cells #[.slice A0 l0.length c0] 59 (0, 0)) zG103 hb)) (zA_ (za (zp (g := gb284) (o := .cells #[.slice A1 l1.length c1] 60 (0, 0)) zG104 hb)) (zA_ (za (zp (g := gb285) (o := .cells #[.slice none 0 0, .int .i64 0] 64 (0, 0)) zG105 hb)) (za (zr zG89 hb)))); clear BK283 BK284 BK285 HB; obtain ⟨BK283, BK284, BK285, HB⟩ := n_; (try clear hb)) | ((with_reducible refine gate_dst (N := 6) rfl ?_); refine box_event ?hg (N := 6) ?hd (cs := #[.slice none 0 0, .int .i64 0]) (t := 64) ?hr ?_; (case hd => rfl); (case hg => rfl); (case hr => exact zH125); intro gb289 hg w63 hbox hb; have n_ := zA_ (za (zp (g := gb283) (o := .cells #[.slice A0 l0.length c0] 59 (0, 0)) zG103 hb)) (zA_ (za (zp (g := gb284) (o := .cells #[.slice A1 l1.length c1] 60 (0, 0)) zG104 hb)) (zA_ (za (zp (g := gb285) (o := .cells #[.slice none 0 0, .int .i64 0] 64 (0, 0)) zG105 hb)) (zA_ (za (zr zG89 hb)) (zA_ (za (hbox)) (zA_ (zN1 w.heap.size hg (zo zG89)) (zA_ (zN1 w.heap.size hg (zo zG89)) (zN3 hg (zae (g := gb283) (o := .cells #[.slice A0 l0.length c0] 59 (0, 0)) zG103) (zN3 hg (zae (g := gb284) (o := .cells #[.slice A1 l1.length c1] 60 (0, 0)) zG104) (zN2 hg (zae (g := gb285) (o := .cells #[.slice none 0 0, .int .i64 0] 64 (0, 0)) zG105)))))))))); clear BK283 BK284 BK285 HB; obtain ⟨BK283, BK284, BK285, HB, BK289, GW289, GE289, NB283_289, NB289_283, NB284_289, NB289_284, NB285_289, NB289_285⟩ := n_; clear hb hbox hg) | ((with_reducible refine gate_dst (N := 7) rfl ?_); refine box_event ?hg (N := 7) ?hd (cs := #[.bool false]) (t := 4) ?hr ?_; (case hd => rfl); (case hg => rfl); (case hr => exact zH125); intro gb290 hg w64 hbox hb; have n_ := zA_ (za (zp (g := gb283) (o := .cells #[.slice A0 l0.length c0] 59 (0, 0)) zG103 hb)) (zA_ (za (zp (g := gb284) (o := .cells #[.slice A1 l1.length c1] 60 (0, 0)) zG104 hb)) (zA_ (za (zp (g := gb285) (o := .cells #[.slice none 0 0, .int .i64 0] 64 (0, 0)) zG105 hb)) (zA_ (za (zp (g := gb289) (o := .cells #[.slice none 0 0, .int .i64 0] 64 (0, 0)) zK238 hb)) (zA_ (za (zr zK211 hb)) (zA_ (za (hbox)) (zA_ (zN1 w.heap.size hg (zo zK211)) (zA_ (zN1 w.heap.size hg (zo zK211)) (zN3 hg (zae (g := gb283) (o := .cells #[.slice A0 l0.length c0] 59 (0, 0)) zG103) (zN3 hg (zae (g := gb284) (o := .cells #[.slice A1 l1.length c1] 60 (0, 0)) zG104) (zN3 hg (zae (g := gb285) (o := .cells #[.slice none 0 0, .int .i64 0] 64 (0, 0)) zG105) (zN2 hg (zae (g := gb289) (o := .cells #[.slice none 0 0, .int .i64 0] 64 (0, 0)) zK238)))))))))))); clear BK283 BK284 BK285 BK289 HB; obtain ⟨BK283, BK284, BK285, BK289, HB, BK290, GW290, GE290, NB283_290, NB290_283, NB284_290, NB290_284, NB285_290, NB290_285, NB289_290, NB290_289⟩ := n_; clear hb hbox hg; have hnb65 := NB289_283.out; have hnc65 := NB283_289.out; have hnb66 := NB289_284.out; have hnc66 := NB284_289.out; have hnb67 := NB289_285.out; have hnc67 := NB285_289.out; have hnb68 := NB289_290.out; have hnc68 := NB290_289.out; obtain ⟨hcz69_0, hcz69_1, hfz69_0, hfz69_1⟩ := zB2 BK289.out; have hnb70 := NB290_283.out; have hnc70 := NB283_290.out; have hnb71 := NB290_284.out; have hnc71 := NB284_290.out; have hnb72 := NB290_285.out; have hnc72 := NB285_290.out; obtain ⟨hcz73_0, hfz73_0⟩ := zB1 BK290.out) | ((with_reducible refine gate_dst (N := 8) rfl ?_); refine box_event ?hg (N := 8) ?hd (cs := #[.nilFunc]) (t := 106) ?hr ?_; (case hd => rfl); (case hg => rfl); (case hr => exact zH125); intro gb291 hg w74 hbox hb; have n_ := zA_ (za (zp (g := gb283) (o := .cells #[.slice A0 l0.length c0] 59 (0, 0)) zK137 hb)) (zA_ (za (zp (g := gb284) (o := .cells #[.slice A1 l1.length c1] 60 (0, 0)) zK138 hb)) (zA_ (za (zp (g := gb285) (o := .cells #[.slice none 0 0, .int .i64 0] 64 (0, 0)) zK139 hb)) (zA_ (za (zp (g := gb289) (o := .cells #[.slice none 0 0, .int .i64 0] 64 (0, 0)) zK135 hb)) (zA_ (za (zp (g := gb290) (o := .cells #[.bool false] 4 (0, 0)) zK136 hb)) (zA_ (za (zr zK209 hb)) (zA_ (za (hbox)) (zA_ (zN1 w.heap.size hg (zo zK209)) (zA_ (zN1 w.heap.size hg (zo zK209)) (zN3 hg (zae (g := gb283) (o := .cells #[.slice A0 l0.length c0] 59 (0, 0)) zK137) (zN3 hg (zae (g := gb284) (o := .cells #[.slice A1 l1.length c1] 60 (0, 0)) zK138) (zN3 hg (zae (g := gb285) (o := .cells #[.slice none 0 0, .int .i64 0] 64 (0, 0)) zK139) (zN3 hg (zae (g := gb289) (o := .cells #[.slice none 0 0, .int .i64 0] 64 (0, 0)) zK135) (zN2 hg (zae (g := gb290) (o := .cells #[.bool false] 4 (0, 0)) zK136)))))))))))))); clear BK283 BK284 BK285 BK289 BK290 HB; obtain ⟨BK283, BK284, BK285, BK289, BK290, HB, BK291, GW291, GE291, NB283_291, NB291_283, NB284_291, NB291_284, NB285_291, NB291_285, NB289_291, NB291_289, NB290_291, NB291_290⟩ := n_; clear hb hbox hg; have hnb75 := NB291_283.out; have hnc75 := NB283_291.out; have hnb76 := NB291_284.out; have hnc76 := NB284_291.out; have hnb77 := NB291_285.out; have hnc77 := NB285_291.out; have hnb78 := NB291_289.out; have hnc78 := NB289_291.out; have hnb79 := NB291_290.out; have hnc79 := NB290_291.out; obtain ⟨hcz80_0, hfz80_0⟩ := zB1 BK291.out) | ((with_reducible refine gate_store (t := 106) (p := 8) rfl ?_); refine store_event (t := 106) (p := 8) (v := ?vo_w81) (w1 := (w74.setCell ⟨gb291, 0, none⟩ (.func (.func 96) #[] #[.pointer (some ⟨gb283, 0, none⟩), .pointer (some ⟨gb284, 0, none⟩), .pointer (some ⟨gb290, 0, none⟩), .pointer (some ⟨gb289, 0, none⟩), .pointer (some ⟨gb291, 0, none⟩)]))) ?hg ?ho ?hn ?hr ?_; (case ho => rfl); (case hg => rfl); (case hn => rfl); (case hr => exact zH125); intro w81 hw; have n0_ : Aside0 (w81.heap[gb283]? = some (.cells #[.slice A0 l0.length c0] 59 (0, 0))) := ⟨zK204⟩; have n1_ : Aside0 (w81.heap[gb284]? = some (.cells #[.slice A1 l1.length c1] 60 (0, 0))) := ⟨zK205⟩; have n2_ : Aside0 (w81.heap[gb285]? = some (.cells #[.slice none 0 0, .int .i64 0] 64 (0, 0))) := ⟨zK206⟩; have n3_ : Aside0 (w81.heap[gb289]? = some (.cells #[.slice none 0 0, .int .i64 0] 64 (0, 0))) := ⟨zK207⟩; have n4_ : Aside0 (w81.heap[gb290]? = some (.cells #[.bool false] 4 (0, 0))) := ⟨zK208⟩; have n5_ : Aside0 (w81.heap[gb291]? = some (.cells #[.func (.func 96) #[] #[.pointer (some ⟨gb283, 0, none⟩), .pointer (some ⟨gb284, 0, none⟩), .pointer (some ⟨gb290, 0, none⟩), .pointer (some ⟨gb289, 0, none⟩), .pointer (some ⟨gb291, 0, none⟩)]] 106 (0, 0))) := ⟨zK202⟩; have n6_ : Aside0 (Below w.heap.size w w81) := ⟨zK186⟩; clear hw BK283; clear BK284 BK285; clear BK289 BK290; clear BK291 HB; have BK283 := n0_; have BK284 := n1_; have BK285 := n2_; have BK289 := n3_; have BK290 := n4_; have BK291 := n5_; have HB := n6_; clear n0_ n1_ n2_ n3_ n4_ n5_ n6_; obtain ⟨hcz82_0, hfz82_0⟩ := zB1 BK291.out) | (go_at_call 96; (refine (impl_BestRoster_1.calls kj2 _ _ ([] : List Int) gb283 A0 c0 l0 gb284 A1 c1 l1 gb290 false gb289 (fun k_ => some k_ = (.slice none 0 0 : Value).ownBlock) (.slice none 0 0) ([] : List Int) 0 gb291 false t293 t296 w _ ?side1 ?side2 ?side3 ?side4 ?side5 ?side6 ?side7 ?side8 ?side9 ?side10 ?side11 ?side12 ?side13 ?side14 ?side15 ?side16 ?side17 ?side18 ?side19 ?side20 ?side21 ?side22 ?side23 ?side24 ?side25 A24.out).mono ?_); (case side1 => exact zH27); (case side2 => exact Kd.C_kept_nil); (case side3 => exact Nat.le_refl _); (case side4 => exact zG103); (case side5 => exact zH7); (case side6 => exact HC0.out); (case side7 => exact zG104); (case side8 => exact NB283_284.out); (case side9 => exact zH8); (case side10 => exact HC1.out); (case side11 => exact zH94); (case side12 => exact GE290.out); (case side13 => exact NB283_290.out); (case side14 => exact NB284_290.out); (case side15 => exact zH93); (case side16 => exact GE289.out); (case side17 => exact NB283_289.out); (case side18 => exact NB284_289.out); (case side19 => exact NB290_289.out); (case side20 => exact zbi _ _ _ _ _); (case side21 => exact zH95); (case side22 => exact NB283_291.out); (case side23 => exact NB284_291.out); (case side24 => exact NB290_291.out); (case side25 => exact NB289_291.out); rintro e w83 ⟨v294, rfl, ho0, hz0, hz1, hb, hkp⟩; have n_ := zA_ (za (zbl zG103 hkp (fun hs_ => Or.elim hs_ (fun hs_ => Or.elim hs_ (fun hs_ => (fun e_ => by simp [Value.ownBlock] at e_) hs_) (fun e_ => NB283_290.out e_)) (fun e_ => NB283_289.out e_)))) (zA_ (za (zbl zG104 hkp (fun hs_ => Or.elim hs_ (fun hs_ => Or.elim hs_ (fun hs_ => (fun e_ => by simp [Value.ownBlock] at e_) hs_) (fun e_ => NB284_290.out e_)) (fun e_ => NB284_289.out e_)))) (zA_ (za (zbl zG105 hkp (fun hs_ => Or.elim hs_ (fun hs_ => Or.elim hs_ (fun hs_ => (fun e_ => by simp [Value.ownBlock] at e_) hs_) (fun e_ => NB285_290.out e_)) (fun e_ => NB285_289.out e_)))) (zA_ (za (hz1)) (zA_ (za (hz0)) (zA_ (za (zbl (by (with_reducible repeat (first | refine zd ?_ _ | refine zg ?_ | refine ze ?_ _)); exact BK291.out) hkp (fun hs_ => Or.elim hs_ (fun hs_ => Or.elim hs_ (fun hs_ => (fun e_ => by simp [Value.ownBlock] at e_) hs_) (fun e_ => NB291_290.out e_)) (fun e_ => NB291_289.out e_)))) (zA_ (za (zt (ok' := fun k_ => True) ho0 (fun k_ hk_ => trivial))) (za (hb)))))))); clear BK283 BK284 BK285 BK289 BK290 BK291 HB; obtain ⟨BK283, BK284, BK285, BK289, BK290, BK291, HO295, HB⟩ := n_; (try clear hb); (try clear hkp); (try clear ho0); (try clear hz0); (try clear hz1); obtain ⟨hcz84_0, hfz84_0⟩ := zB1 BK290.out; obtain ⟨hcz85_0, hcz85_1, hfz85_0, hfz85_1⟩ := zB2 BK285.out))
   refine bodyPost_ret (results_ct rfl _ _ gb285 64 #[.slice none 0 0, .int .i64 0] (0, 0) _ rfl zK146 Try.underlying64 rfl zG130) rfl ?_
   exact ⟨_, zH113, zH90, zH26⟩
/-! ### impl_isList_int: function 63 -/
def impl_isList_int.f (l0 : List Int) : Option (Bool) := some (decide ((l0.length : Int) ≤ 4096))
set_option maxHeartbeats 64000000 in
set_option maxRecDepth 100000 in
theorem impl_isList_int.calls (A0 : Option Addr) (c0 : Nat) (l0 : List Int) (r : Bool) (w : World) (hr0 : Kd.C (Kd.int .i64) w A0 l0.length l0) (hc0 : l0.length ≤ c0) (h : impl_isList_int.f l0 = some r) :
  Calls Try.prog 63 #[.slice A0 l0.length c0] w fun e w' => e = .returned (.bool r) ∧ Drawn0 w w' := by
 obtain ⟨HR0, HC0⟩ := zD2 hr0 hc0
 clear hr0 hc0
 have H : (some (decide ((l0.length : Int) ≤ 4096))) = some r := h
 clear h
 obtain rfl := Option.some.inj H
 go_enter Try.func63, Try.ntmps63
 go_wp2
 go_ret
 exact zH91

/-! ### impl_RosterOf: function 30 -/
mutual
def impl_RosterOf.j0 : Nat → List (S139) → List (S72) → List Int → Bool → Option (List Int × Int × Int × Int)
 | 0, _, _, _, _ => none
 | k + 1, x0, x1, x2, x12 => if x12 = true then (some (([] : List Int), 0, 2, 0)) else ((impl_ShiftsOK.f k x0 x1).bind fun t301 => (if t301 = true then (if (x2.length : Int) = (x0.length : Int) then (impl_RosterOf.l0 k x0 x1 x2 x2 (x2.length : Int) 0) else (some (([] : List Int), 0, 3, 0))) else (some (([] : List Int), 0, 1, 0))))
def impl_RosterOf.l0 : Nat → List (S139) → List (S72) → List Int → List Int → Int → Int → Option (List Int × Int × Int × Int)
 | 0, _, _, _, _, _, _ => none
 | k + 1, x0, x1, x2, x40, x41, x42 => if x42 < x41 then (if 0 ≤ x42 then (if x42 < (x40.length : Int) then ((impl_within.f (rd x40 x42) 0 (wrap64 ((x1.length : Int) - 1))).bind fun t307 => (if t307 = true then (if x42 ≤ (x2.length : Int) then ((impl_shiftCode.f k x0 x1 (x2.take (x42 : Int).toNat) (rd x40 x42)).bind fun t309 => (if t309 = 0 then (impl_RosterOf.l0 k x0 x1 x2 x40 x41 (wrap64 (x42 + 1))) else (some (([] : List Int), 0, t309, x42)))) else (none)) else (some (([] : List Int), 0, 5, x42)))) else (none)) else (none)) else ((slices_Clone_int_int.f x2).bind fun t302 => ((impl_costOf.f k x0 x1 x2).bind fun t305 => (some (t302, t305, 0, 0))))
end
def impl_RosterOf.f (k : Nat) (l0 : List (S139)) (l1 : List (S72)) (l2 : List Int) : Option (List Int × Int × Int × Int) := (impl_Shift.f l0).bind fun t298 => (if t298 = true then ((impl_Worker.f l1).bind fun t299 => (if t299 = true then ((impl_isList_int.f l2).bind fun t300 => (impl_RosterOf.j0 k l0 l1 l2 (!t300))) else (impl_RosterOf.j0 k l0 l1 l2 true))) else (impl_RosterOf.j0 k l0 l1 l2 true))
theorem impl_RosterOf.mono_l : ∀ k, (∀ y0 y1 y2 y3, LeO (impl_RosterOf.j0 k y0 y1 y2 y3) (impl_RosterOf.j0 (k + 1) y0 y1 y2 y3)) ∧ (∀ y0 y1 y2 y3 y4 y5, LeO (impl_RosterOf.l0 k y0 y1 y2 y3 y4 y5) (impl_RosterOf.l0 (k + 1) y0 y1 y2 y3 y4 y5))
 | 0 => ⟨fun _ _ _ _ r h => by simp [impl_RosterOf.j0] at h, fun _ _ _ _ _ _ r h => by simp [impl_RosterOf.l0] at h⟩
 | k + 1 => by
  obtain ⟨ih0, ih1⟩ := impl_RosterOf.mono_l k
  refine ⟨?_, ?_⟩
  ·intro y0 y1 y2 y3
   unfold impl_RosterOf.j0
   repeat' first
   | (with_reducible exact ih0 _ _ _ _)
   | (with_reducible exact ih1 _ _ _ _ _ _)
   | (with_reducible exact impl_ShiftsOK.mono _ _ _)
   | (with_reducible exact impl_costOf.mono _ _ _ _)
   | (with_reducible exact impl_shiftCode.mono _ _ _ _ _)
   | (with_reducible exact LeO.refl _)
   | (with_reducible exact LeO.none _)
   | (with_reducible refine LeO.ite ?_ ?_)
   | (with_reducible refine LeO.bind ?_ (fun _ => ?_))
   | exact ih0 _ _ _ _
   | exact ih1 _ _ _ _ _ _
   | exact impl_ShiftsOK.mono _ _ _
   | exact impl_costOf.mono _ _ _ _
   | exact impl_shiftCode.mono _ _ _ _ _
   | exact LeO.none _
   | refine LeO.ite ?_ ?_
   | refine LeO.bind ?_ (fun _ => ?_)
  ·intro y0 y1 y2 y3 y4 y5
   unfold impl_RosterOf.l0
   repeat' first
   | (with_reducible exact ih0 _ _ _ _)
   | (with_reducible exact ih1 _ _ _ _ _ _)
   | (with_reducible exact impl_ShiftsOK.mono _ _ _)
   | (with_reducible exact impl_costOf.mono _ _ _ _)
   | (with_reducible exact impl_shiftCode.mono _ _ _ _ _)
   | (with_reducible exact LeO.refl _)
   | (with_reducible exact LeO.none _)
   | (with_reducible refine LeO.ite ?_ ?_)
   | (with_reducible refine LeO.bind ?_ (fun _ => ?_))
   | exact ih0 _ _ _ _
   | exact ih1 _ _ _ _ _ _
   | exact impl_ShiftsOK.mono _ _ _
   | exact impl_costOf.mono _ _ _ _
   | exact impl_shiftCode.mono _ _ _ _ _
   | exact LeO.none _
   | refine LeO.ite ?_ ?_
   | refine LeO.bind ?_ (fun _ => ?_)
theorem impl_RosterOf.mono : ∀ a0 a1 a2 k, LeO (impl_RosterOf.f k a0 a1 a2) (impl_RosterOf.f (k + 1) a0 a1 a2) := by
 intro a0 a1 a2 k
 obtain ⟨ih0, ih1⟩ := impl_RosterOf.mono_l k
 unfold impl_RosterOf.f
 repeat' first
   | (with_reducible exact ih0 _ _ _ _)
   | (with_reducible exact ih1 _ _ _ _ _ _)
   | (with_reducible exact impl_ShiftsOK.mono _ _ _)
   | (with_reducible exact impl_costOf.mono _ _ _ _)
   | (with_reducible exact impl_shiftCode.mono _ _ _ _ _)
   | (with_reducible exact LeO.refl _)
   | (with_reducible exact LeO.none _)
   | (with_reducible refine LeO.ite ?_ ?_)
   | (with_reducible refine LeO.bind ?_ (fun _ => ?_))
   | exact ih0 _ _ _ _
   | exact ih1 _ _ _ _ _ _
   | exact impl_ShiftsOK.mono _ _ _
   | exact impl_costOf.mono _ _ _ _
   | exact impl_shiftCode.mono _ _ _ _ _
   | exact LeO.none _
   | refine LeO.ite ?_ ?_
   | refine LeO.bind ?_ (fun _ => ?_)
set_option maxHeartbeats 64000000 in
set_option maxRecDepth 100000 in
theorem impl_RosterOf.calls (k : Nat) (A0 : Option Addr) (c0 : Nat) (l0 : List (S139)) (A1 : Option Addr) (c1 : Nat) (l1 : List (S72)) (A2 : Option Addr) (c2 : Nat) (l2 : List Int) (r1 : List Int) (r2 : Int) (r3 : Int) (r4 : Int) (w : World) (hr0 : Kd.C k139 w A0 l0.length l0) (hc0 : l0.length ≤ c0) (hr1 : Kd.C k72 w A1 l1.length l1) (hc1 : l1.length ≤ c1) (hr2 : Kd.C (Kd.int .i64) w A2 l2.length l2) (hc2 : l2.length ≤ c2) (h : impl_RosterOf.f k l0 l1 l2 = some (r1, r2, r3, r4)) :
  Calls Try.prog 30 #[.slice A0 l0.length c0, .slice A1 l1.length c1, .slice A2 l2.length c2] w fun e w' => ∃ v0_ : Value, e = .returned (.tuple #[.agg #[v0_, .int .i64 r2], .int .i64 r3, .int .i64 r4]) ∧ Kd.R (Kd.int .i64) 3 w' w.heap.size (fun _ => True) v0_ r1 ∧ Below w.heap.size w w' := by
 have hu64 := Try.underlying64
 obtain ⟨HR0, HC0, HR1, HC1, HR2, HC2, HB⟩ := zD7 hr0 hc0 hr1 hc1 hr2 hc2 (Below.refl w.heap.size w)
 clear hr0 hc0 hr1 hc1 hr2 hc2
 have H : ((impl_Shift.f l0).bind fun t298 => (if t298 = true then ((impl_Worker.f l1).bind fun t299 => (if t299 = true then ((impl_isList_int.f l2).bind fun t300 => (impl_RosterOf.j0 k l0 l1 l2 (!t300))) else (impl_RosterOf.j0 k l0 l1 l2 true))) else (impl_RosterOf.j0 k l0 l1 l2 true))) = some (r1, r2, r3, r4) := h
 clear h
 have HC4 := za H
 clear H
 go_enter Try.func30, Try.ntmps30
 go_upto_region 1 with (first | ((with_reducible refine gate_dst (N := 6) rfl ?_); refine box_event ?hg (N := 6) ?hd (cs := #[.slice none 0 0, .int .i64 0]) (t := 64) ?hr ?_; (case hd => rfl); (case hg => rfl); (case hr => exact zH125); intro gb297 hg w5 hbox hb; have n_ := zA_ (za (zr zG102 hb)) (zA_ (za (hbox)) (zA_ (zN1 w.heap.size hg (zo zG102)) (zN1 w.heap.size hg (zo zG102)))); clear HB; obtain ⟨HB, BK297, GW297, GE297⟩ := n_; clear hb hbox hg))
 (try simp only [Act.put, List.setIfInBounds_toArray, List.set_cons_zero, List.set_cons_succ])
 go_cut [12] (fun v12 wc => ∃ (kq : Nat) (x12_3 : Bool), v12 = .bool x12_3 ∧ Aside0 (impl_RosterOf.j0 kq l0 l1 l2 x12_3 = some (r1, r2, r3, r4)) ∧ Aside0 (kq ≤ k) ∧ Aside0 (wc.heap[gb297]? = some (.cells #[(.slice none 0 0), .int .i64 0] 64 (0, 0))) ∧ Aside0 (Below w.heap.size w wc))
 case first =>
  have H := HC4.out
  clear HC4
  replace H := Option.bind_eq_some_iff.mp H
  obtain ⟨t298, A60, H⟩ := H
  replace H : (if t298 = true then ((impl_Worker.f l1).bind fun t299 => (if t299 = true then ((impl_isList_int.f l2).bind fun t300 => (impl_RosterOf.j0 k l0 l1 l2 (!t300))) else (impl_RosterOf.j0 k l0 l1 l2 true))) else (impl_RosterOf.j0 k l0 l1 l2 true)) = some (r1, r2, r3, r4) := H
  have A6 := za A60
  clear A60
  by_cases c7 : t298 = true
  rotate_left
  ·replace c7 := Bool.eq_false_iff.mpr c7
   subst c7
   have H1 : (impl_RosterOf.j0 k l0 l1 l2 true) = some (r1, r2, r3, r4) := by rw [if_neg (show ¬ (false = true) by decide)] at H; exact H
   clear H
   have H := H1
   clear H1
   have H' := za H
   clear H
   go_wp2_with (first | ((with_reducible refine gate_callee (f := 94) rfl ?_); refine goesL_ (some 14) rfl rfl Try.func94 zG130 rfl #[.slice A0 l0.length c0] rfl zG93 ?_; (with_reducible refine (impl_Shift.calls _ _ l0 false _ ?side1 ?side2 A6.out).mono ?_); (case side1 => exact zH63); (case side2 => exact HC0.out); rintro e w' ⟨rfl, ⟨nd, rfl⟩⟩; refine ⟨_, rfl, ?_⟩))
   go_meet
   case rel => exact ⟨_, (true), zG129, H', ⟨zH126⟩, ⟨zH106⟩, ⟨zH85⟩⟩
  subst c7
  have H1 : ((impl_Worker.f l1).bind fun t299 => (if t299 = true then ((impl_isList_int.f l2).bind fun t300 => (impl_RosterOf.j0 k l0 l1 l2 (!t300))) else (impl_RosterOf.j0 k l0 l1 l2 true))) = some (r1, r2, r3, r4) := by rw [if_pos rfl] at H; exact H
  clear H
  have H := H1
  clear H1
  replace H := Option.bind_eq_some_iff.mp H
  obtain ⟨t299, A80, H⟩ := H
  replace H : (if t299 = true then ((impl_isList_int.f l2).bind fun t300 => (impl_RosterOf.j0 k l0 l1 l2 (!t300))) else (impl_RosterOf.j0 k l0 l1 l2 true)) = some (r1, r2, r3, r4) := H
  have A8 := za A80
  clear A80
  by_cases c9 : t299 = true
  rotate_left
  ·replace c9 := Bool.eq_false_iff.mpr c9
   subst c9
   have H1 : (impl_RosterOf.j0 k l0 l1 l2 true) = some (r1, r2, r3, r4) := by rw [if_neg (show ¬ (false = true) by decide)] at H; exact H
   clear H
   have H := H1
   clear H1
   have H' := za H
   clear H
   go_wp2_with (first | ((with_reducible refine gate_callee (f := 94) rfl ?_); refine goesL_ (some 14) rfl rfl Try.func94 zG130 rfl #[.slice A0 l0.length c0] rfl zG93 ?_; (with_reducible refine (impl_Shift.calls _ _ l0 true _ ?side1 ?side2 A6.out).mono ?_); (case side1 => exact zH63); (case side2 => exact HC0.out); rintro e w' ⟨rfl, ⟨nd, rfl⟩⟩; refine ⟨_, rfl, ?_⟩) | (go_at_call 95; (with_reducible refine (impl_Worker.calls _ _ l1 false _ ?side1 ?side2 A8.out).mono ?_); (case side1 => exact zH68); (case side2 => exact HC1.out); rintro e w' ⟨rfl, ⟨nd, rfl⟩⟩))
   go_meet
   case rel => exact ⟨_, (true), zG129, H', ⟨zH126⟩, ⟨zH106⟩, ⟨zH85⟩⟩
  subst c9
  have H1 : ((impl_isList_int.f l2).bind fun t300 => (impl_RosterOf.j0 k l0 l1 l2 (!t300))) = some (r1, r2, r3, r4) := by rw [if_pos rfl] at H; exact H
  clear H
  have H := H1
  clear H1
  replace H := Option.bind_eq_some_iff.mp H
  obtain ⟨t300, A100, H⟩ := H
  replace H : (impl_RosterOf.j0 k l0 l1 l2 (!t300)) = some (r1, r2, r3, r4) := H
  have A10 := za A100
  clear A100
  have H' := za H
  clear H
  go_wp2_with (first | ((with_reducible refine gate_callee (f := 94) rfl ?_); refine goesL_ (some 14) rfl rfl Try.func94 zG130 rfl #[.slice A0 l0.length c0] rfl zG93 ?_; (with_reducible refine (impl_Shift.calls _ _ l0 true _ ?side1 ?side2 A6.out).mono ?_); (case side1 => exact zH63); (case side2 => exact HC0.out); rintro e w' ⟨rfl, ⟨nd, rfl⟩⟩; refine ⟨_, rfl, ?_⟩) | (go_at_call 95; (with_reducible refine (impl_Worker.calls _ _ l1 true _ ?side1 ?side2 A8.out).mono ?_); (case side1 => exact zH68); (case side2 => exact HC1.out); rintro e w' ⟨rfl, ⟨nd, rfl⟩⟩) | (go_at_call 63; (with_reducible refine (impl_isList_int.calls _ _ l2 t300 _ ?side1 ?side2 A10.out).mono ?_); (case side1 => repeat (first | exact (zah HR2.out zG95) | (with_reducible refine zaa ?_ _) | (with_reducible refine zab ?_ _) | (with_reducible refine zac ?_))); (case side2 => exact HC2.out); rintro e w' ⟨rfl, ⟨nd, rfl⟩⟩))
  go_meet
  case rel => exact ⟨_, (!t300), zG129, H', ⟨zH126⟩, ⟨zH106⟩, ⟨zH85⟩⟩
 case rest =>
  clear HC4
  try clear c1
  try clear c2
  try clear c7
  try clear c9
  obtain ⟨kq, x12_3, rfl, HA, HJ3, BK297, HB⟩ := hcut
  cases kq with
  | zero => exact absurd HA.out (by simp [impl_RosterOf.j0])
  | succ kj3 =>
   have H := HA.out
   clear HA
   simp only [impl_RosterOf.j0] at H
   by_cases c11 : x12_3 = true
   ·subst c11
    have H1 : (some (([] : List Int), 0, 2, 0)) = some (r1, r2, r3, r4) := by rw [if_pos rfl] at H; exact H
    clear H
    have H := H1
    clear H1
    simp only [Option.some.injEq, Prod.mk.injEq] at H
    obtain ⟨rfl, rfl, rfl, rfl⟩ := H
    obtain ⟨hcz12_0, hcz12_1, hfz12_0, hfz12_1⟩ := zB2 BK297.out
    go_wp2
    refine bodyPost_ret (results_ctt rfl _ _ gb297 64 #[.slice none 0 0, .int .i64 0] (0, 0) _ rfl zK147 Try.underlying64 rfl zG130) rfl ?_
    exact zH19
   replace c11 := Bool.eq_false_iff.mpr c11
   subst c11
   have H1 : ((impl_ShiftsOK.f kj3 l0 l1).bind fun t301 => (if t301 = true then (if (l2.length : Int) = (l0.length : Int) then (impl_RosterOf.l0 kj3 l0 l1 l2 l2 (l2.length : Int) 0) else (some (([] : List Int), 0, 3, 0))) else (some (([] : List Int), 0, 1, 0)))) = some (r1, r2, r3, r4) := by rw [if_neg (show ¬ (false = true) by decide)] at H; exact H
   clear H
   have H := H1
   clear H1
   replace H := Option.bind_eq_some_iff.mp H
   obtain ⟨t301, A130, H⟩ := H
   replace H : (if t301 = true then (if (l2.length : Int) = (l0.length : Int) then (impl_RosterOf.l0 kj3 l0 l1 l2 l2 (l2.length : Int) 0) else (some (([] : List Int), 0, 3, 0))) else (some (([] : List Int), 0, 1, 0))) = some (r1, r2, r3, r4) := H
   have A13 := za A130
   clear A130
   by_cases c14 : t301 = true
   rotate_left
   ·replace c14 := Bool.eq_false_iff.mpr c14
    subst c14
    have H1 : (some (([] : List Int), 0, 1, 0)) = some (r1, r2, r3, r4) := by rw [if_neg (show ¬ (false = true) by decide)] at H; exact H
    clear H
    have H := H1
    clear H1
    simp only [Option.some.injEq, Prod.mk.injEq] at H
    obtain ⟨rfl, rfl, rfl, rfl⟩ := H
    go_wp2_with (first | ((with_reducible refine gate_callee (f := 31) rfl ?_); refine goesL_ (some 30) rfl rfl Try.func31 zG130 rfl #[.slice A0 l0.length c0, .slice A1 l1.length c1] rfl zG93 ?_; (with_reducible refine (impl_ShiftsOK.calls kj3 _ _ l0 _ _ l1 false _ ?side1 ?side2 ?side3 ?side4 A13.out).mono ?_); (case side1 => exact zH63); (case side2 => exact HC0.out); (case side3 => exact zH62); (case side4 => exact HC1.out); rintro e w42 ⟨rfl, hb⟩; refine ⟨_, rfl, ?_⟩; have n_ := zA_ (za (zp (g := gb297) (o := .cells #[.slice none 0 0, .int .i64 0] 64 (0, 0)) zK239 hb)) (za (zr zG95 hb)); clear BK297 HB; obtain ⟨BK297, HB⟩ := n_; (try clear hb); obtain ⟨hcz43_0, hcz43_1, hfz43_0, hfz43_1⟩ := zB2 BK297.out))
    refine bodyPost_ret (results_ctt rfl _ _ gb297 64 #[.slice none 0 0, .int .i64 0] (0, 0) _ rfl zK147 Try.underlying64 rfl zG130) rfl ?_
    exact zH19

   subst c14
   have H1 : (if (l2.length : Int) = (l0.length : Int) then (impl_RosterOf.l0 kj3 l0 l1 l2 l2 (l2.length : Int) 0) else (some (([] : List Int), 0, 3, 0))) = some (r1, r2, r3, r4) := by rw [if_pos rfl] at H; exact H
   clear H
   have H := H1
   clear H1
   by_cases c15 : (l2.length : Int) = (l0.length : Int)
   rotate_left
   ·rw [if_neg c15] at H
    have c15b0 : ((l2.length : Int) == (l0.length : Int)) = false := beq_eq_false_iff_ne.mpr c15
    have c15b1 : ((l2.length : Int) != (l0.length : Int)) = true := bne_iff_ne.mpr c15
    have c15b2 : (l2.length == l0.length) = false := by first | simpa using c15 | (simp at c15 ⊢; omega)
    simp only [Option.some.injEq, Prod.mk.injEq] at H
    obtain ⟨rfl, rfl, rfl, rfl⟩ := H
    go_wp2_with (first | ((with_reducible refine gate_callee (f := 31) rfl ?_); refine goesL_ (some 30) rfl rfl Try.func31 zG130 rfl #[.slice A0 l0.length c0, .slice A1 l1.length c1] rfl zG93 ?_; (with_reducible refine (impl_ShiftsOK.calls kj3 _ _ l0 _ _ l1 true _ ?side1 ?side2 ?side3 ?side4 A13.out).mono ?_); (case side1 => exact zH63); (case side2 => exact HC0.out); (case side3 => exact zH62); (case side4 => exact HC1.out); rintro e w40 ⟨rfl, hb⟩; refine ⟨_, rfl, ?_⟩; have n_ := zA_ (za (zp (g := gb297) (o := .cells #[.slice none 0 0, .int .i64 0] 64 (0, 0)) zK239 hb)) (za (zr zG95 hb)); clear BK297 HB; obtain ⟨BK297, HB⟩ := n_; (try clear hb); obtain ⟨hcz41_0, hcz41_1, hfz41_0, hfz41_1⟩ := zB2 BK297.out))
    refine bodyPost_ret (results_ctt rfl _ _ gb297 64 #[.slice none 0 0, .int .i64 0] (0, 0) _ rfl zK147 Try.underlying64 rfl zG130) rfl ?_
    exact zH19
   rw [if_pos c15] at H
   have c15b0 : ((l2.length : Int) == (l0.length : Int)) = true := beq_iff_eq.mpr c15
   have c15b1 : ((l2.length : Int) != (l0.length : Int)) = false := bne_eq_false_iff_eq.mpr c15
   have c15b2 : (l2.length == l0.length) = true := by first | simpa using c15 | (simp at c15 ⊢; omega)
   clear c15
   have H' := za H
   clear H
   go_wp2_with (first | ((with_reducible refine gate_callee (f := 31) rfl ?_); refine goesL_ (some 30) rfl rfl Try.func31 zG130 rfl #[.slice A0 l0.length c0, .slice A1 l1.length c1] rfl zG93 ?_; (with_reducible refine (impl_ShiftsOK.calls kj3 _ _ l0 _ _ l1 true _ ?side1 ?side2 ?side3 ?side4 A13.out).mono ?_); (case side1 => exact zH63); (case side2 => exact HC0.out); (case side3 => exact zH62); (case side4 => exact HC1.out); rintro e w16 ⟨rfl, hb⟩; refine ⟨_, rfl, ?_⟩; have n_ := zA_ (za (zp (g := gb297) (o := .cells #[.slice none 0 0, .int .i64 0] 64 (0, 0)) zK239 hb)) (za (zr zG95 hb)); clear BK297 HB; obtain ⟨BK297, HB⟩ := n_; (try clear hb)))
   go_loopg [42] kj3 (fun kq v42 w' => ∃ (x42_2 : Int) (x298001_2 : Int), v42 = .int .i64 x42_2 ∧ Aside0 (impl_RosterOf.l0 kq l0 l1 l2 l2 (l2.length : Int) x42_2 = some (r1, r2, r3, r4)) ∧ Aside0 (kq ≤ kj3) ∧ Aside0 (w'.heap[gb297]? = some (.cells #[(.slice none 0 0), .int .i64 x298001_2] 64 (0, 0))) ∧ Aside0 (Below w.heap.size w w'))
   case atStart => exact ⟨(0), (0), zG129, H', ⟨Nat.le_refl _⟩, ⟨zH106⟩, ⟨zH85⟩⟩
   case round =>
    clear H'
    try clear c1
    try clear c2
    try clear c7
    try clear c9
    try clear c11
    try clear c14
    try clear c15
    try clear c15b0
    try clear c15b1
    try clear c15b2
    try clear hcz12_0
    try clear hcz12_1
    try clear hfz12_0
    try clear hfz12_1
    obtain ⟨x42_2, x298001_2, rfl, HA, HK2, BK297, HB⟩ := hrel
    cases gk with
    | zero => exact absurd HA.out (by simp [impl_RosterOf.l0])
    | succ k2 =>
     have H := HA.out
     clear HA
     simp only [impl_RosterOf.l0] at H
     by_cases c17 : x42_2 < (l2.length : Int)
     rotate_left
     ·rw [if_neg c17] at H
      have c17b0 := decide_eq_false c17
      clear c17
      replace H := Option.bind_eq_some_iff.mp H
      obtain ⟨t302, A340, H⟩ := H
      replace H : ((impl_costOf.f k2 l0 l1 l2).bind fun t305 => (some (t302, t305, 0, 0))) = some (r1, r2, r3, r4) := H
      have A34 := za A340
      clear A340
      replace H := Option.bind_eq_some_iff.mp H
      obtain ⟨t305, A350, H⟩ := H
      replace H : (some (t302, t305, 0, 0)) = some (r1, r2, r3, r4) := H
      have A35 := za A350
      clear A350
      simp only [Option.some.injEq, Prod.mk.injEq] at H
      obtain ⟨rfl, rfl, rfl, rfl⟩ := H
      go_wp2_with (first | ((with_reducible refine gate_callee (f := 84) rfl ?_); refine goesL_ (some 69) rfl rfl Try.func84 zG130 rfl #[.slice A2 l2.length c2] rfl zG93 ?_; (with_reducible refine (slices_Clone_int_int.calls _ _ l2 t302 _ ?side1 ?side2 A34.out).mono ?_); (case side1 => exact zH61); (case side2 => exact HC2.out); rintro e w36 ⟨v303, rfl, ho0, hb⟩; refine ⟨_, rfl, ?_⟩; have n_ := zA_ (za (zam ho0 (zo zG95))) (zA_ (za (zp (g := gb297) (o := .cells #[.slice none 0 0, .int .i64 x298001_2] 64 (0, 0)) zK239 hb)) (za (zr zG95 hb))); clear BK297 HB; obtain ⟨HO304, BK297, HB⟩ := n_; (try clear hb); (try clear ho0)) | ((with_reducible refine gate_callee (f := 97) rfl ?_); refine goesL_ (some 73) rfl rfl Try.func97 zG130 rfl #[.slice A0 l0.length c0, .slice A1 l1.length c1, .slice A2 l2.length c2] rfl zG93 ?_; (with_reducible refine (impl_costOf.calls k2 _ _ l0 _ _ l1 _ _ l2 t305 _ ?side1 ?side2 ?side3 ?side4 ?side5 ?side6 A35.out).mono ?_); (case side1 => exact zH63); (case side2 => exact HC0.out); (case side3 => exact zH62); (case side4 => exact HC1.out); (case side5 => exact zH61); (case side6 => exact HC2.out); rintro e w' ⟨rfl, ⟨nd, rfl⟩⟩; refine ⟨_, rfl, ?_⟩; (try (rw [drewN_self w36]; generalize hq_ : World.drewN w36 _ = w36; have n0_ : Aside0 (Kd.R (Kd.int .i64) 3 w36 w.heap.size (fun _ => True) v303 t302) := ⟨by rw [← hq_]; exact (by (with_reducible repeat (first | apply zl | apply zm | apply zn)); exact HO304.out)⟩; have n1_ : Aside0 (w36.heap[gb297]? = some (.cells #[.slice none 0 0, .int .i64 x298001_2] 64 (0, 0))) := ⟨zH89⟩; have n2_ : Aside0 (Below w.heap.size w w36) := ⟨by rw [← hq_]; exact zG95⟩; clear HO304 BK297 HB hq_; have HO304 := n0_; have BK297 := n1_; have HB := n2_; clear n0_ n1_ n2_)); (try have hcu37_0 : w36.cell? ⟨gb297, 0, none⟩ = some (.slice none 0 0) := (zk BK297.out 0).trans rfl); (try have hcu37_1 : w36.cell? ⟨gb297, 1, none⟩ = some (.int .i64 x298001_2) := (zk BK297.out 1).trans rfl); (try have hfcu37_0 := zj BK297.out 0); (try have hfcu37_1 := zj BK297.out 1); obtain ⟨Ao38, co38, eo38⟩ := zal HO304.out; subst eo38; obtain ⟨hcz39_0, hcz39_1, hfz39_0, hfz39_1⟩ := zB2 BK297.out))
      refine bodyPost_ret (results_ctt rfl _ _ gb297 64 #[.slice Ao38 t302.length co38, .int .i64 t305] (0, 0) _ rfl (by (with_reducible repeat (first | refine zd ?_ _ | refine zg ?_ | refine ze ?_ _)); refine zu (cs := #[.slice Ao38 t302.length co38, .int .i64 x298001_2]) ?_ 1 _ rfl; (with_reducible repeat (first | refine zd ?_ _ | refine zg ?_ | refine ze ?_ _)); refine zu (cs := #[.slice none 0 0, .int .i64 x298001_2]) ?_ 0 _ rfl; (with_reducible repeat (first | refine zd ?_ _ | refine zg ?_ | refine ze ?_ _)); exact BK297.out) Try.underlying64 rfl zG130) rfl ?_
      exact ⟨_, zH113, by (with_reducible repeat (first | apply zl | apply zm | apply zn)); exact zt (zs (p := ⟨gb297, 1, none⟩) (zs (p := ⟨gb297, 0, none⟩) (zv HO304.out BK297.out zG131) (fun _ hk => hk.2) (.slice Ao38 t302.length co38)) (fun _ hk => hk.2) (.int .i64 t305)) (fun _ hk => trivial), zH85⟩
     rw [if_pos c17] at H
     have c17b0 := decide_eq_true c17
     clear c17
     by_cases c18 : 0 ≤ x42_2
     rotate_left
     ·rw [if_neg c18] at H
      exact absurd H (by simp)
     rw [if_pos c18] at H
     have c18b0 := decide_eq_true c18
     clear c18
     by_cases c19 : x42_2 < (l2.length : Int)
     rotate_left
     ·rw [if_neg c19] at H
      exact absurd H (by simp)
     rw [if_pos c19] at H
     have c19b0 := decide_eq_true c19
     clear c19
     replace H := Option.bind_eq_some_iff.mp H
     obtain ⟨t307, A200, H⟩ := H
     replace H : (if t307 = true then (if x42_2 ≤ (l2.length : Int) then ((impl_shiftCode.f k2 l0 l1 (l2.take (x42_2 : Int).toNat) (rd l2 x42_2)).bind fun t309 => (if t309 = 0 then (impl_RosterOf.l0 k2 l0 l1 l2 l2 (l2.length : Int) (wrap64 (x42_2 + 1))) else (some (([] : List Int), 0, t309, x42_2)))) else (none)) else (some (([] : List Int), 0, 5, x42_2))) = some (r1, r2, r3, r4) := H
     have A20 := za A200
     clear A200
     by_cases c21 : t307 = true
     rotate_left
     ·replace c21 := Bool.eq_false_iff.mpr c21
      subst c21
      have H1 : (some (([] : List Int), 0, 5, x42_2)) = some (r1, r2, r3, r4) := by rw [if_neg (show ¬ (false = true) by decide)] at H; exact H
      clear H
      have H := H1
      clear H1
      simp only [Option.some.injEq, Prod.mk.injEq] at H
      obtain ⟨rfl, rfl, rfl, rfl⟩ := H
      have p306 : 0 ≤ (x42_2 : Int) := zO
      have q306 : x42_2 < (l2.length : Int) := zO
      obtain ⟨ad306, e306, hx306_0⟩ := zbf HR2.out x42_2 p306 q306
      cases e306
      replace hx306_0 := (HB.out.cell (zb w _ hx306_0)).trans hx306_0
      replace p306 := eq_true p306
      replace q306 := eq_true q306
      go_wp2_with (first | ((with_reducible refine gate_callee (f := 88) rfl ?_); refine goesL_ (some 51) rfl rfl Try.func88 zG130 rfl #[.int .i64 (rd l2 x42_2), .int .i64 0, .int .i64 (wrap64 ((l1.length : Int) - 1))] rfl zG93 ?_; (with_reducible refine (impl_within.calls (rd l2 x42_2) 0 (wrap64 ((l1.length : Int) - 1)) false _ A20.out).mono ?_); rintro e w' ⟨rfl, ⟨nd, rfl⟩⟩; refine ⟨_, rfl, ?_⟩; (try (rw [drewN_self wr]; generalize hq_ : World.drewN wr _ = wr; have n0_ : Aside0 (wr.heap[gb297]? = some (.cells #[.slice none 0 0, .int .i64 x298001_2] 64 (0, 0))) := ⟨zH89⟩; have n1_ : Aside0 (Below w.heap.size w wr) := ⟨by rw [← hq_]; exact zG95⟩; clear BK297 HB hq_; have BK297 := n0_; have HB := n1_; clear n0_ n1_)); (try have hcu32_0 : wr.cell? ⟨gb297, 0, none⟩ = some (.slice none 0 0) := (zk BK297.out 0).trans rfl); (try have hcu32_1 : wr.cell? ⟨gb297, 1, none⟩ = some (.int .i64 x298001_2) := (zk BK297.out 1).trans rfl); (try have hfcu32_0 := zj BK297.out 0); (try have hfcu32_1 := zj BK297.out 1); obtain ⟨hcz33_0, hcz33_1, hfz33_0, hfz33_1⟩ := zB2 BK297.out))
      refine bodyPost_ret (results_ctt rfl _ _ gb297 64 #[.slice none 0 0, .int .i64 0] (0, 0) _ rfl zK140 Try.underlying64 rfl zG130) rfl ?_
      exact zH19
     subst c21
     have H1 : (if x42_2 ≤ (l2.length : Int) then ((impl_shiftCode.f k2 l0 l1 (l2.take (x42_2 : Int).toNat) (rd l2 x42_2)).bind fun t309 => (if t309 = 0 then (impl_RosterOf.l0 k2 l0 l1 l2 l2 (l2.length : Int) (wrap64 (x42_2 + 1))) else (some (([] : List Int), 0, t309, x42_2)))) else (none)) = some (r1, r2, r3, r4) := by rw [if_pos rfl] at H; exact H
     clear H
     have H := H1
     clear H1
     have c22b0 := eq_true (zO : 0 ≤ x42_2)
     by_cases c23 : x42_2 ≤ (l2.length : Int)
     rotate_left
     ·rw [if_neg c23] at H
      exact absurd H (by simp)
     rw [if_pos c23] at H
     have c23b0 := eq_true c23
     have c23b1 := decide_eq_true c23
     clear c23
     replace H := Option.bind_eq_some_iff.mp H
     obtain ⟨t309, A240, H⟩ := H
     replace H : (if t309 = 0 then (impl_RosterOf.l0 k2 l0 l1 l2 l2 (l2.length : Int) (wrap64 (x42_2 + 1))) else (some (([] : List Int), 0, t309, x42_2))) = some (r1, r2, r3, r4) := H
     have A24 := za A240
     clear A240
     by_cases c25 : t309 = 0
     rotate_left
     ·rw [if_neg c25] at H
      have c25b0 : (t309 == 0) = false := beq_eq_false_iff_ne.mpr c25
      have c25b1 : (t309 != 0) = true := bne_iff_ne.mpr c25
      simp only [Option.some.injEq, Prod.mk.injEq] at H
      obtain ⟨rfl, rfl, rfl, rfl⟩ := H
      have p306 : 0 ≤ (x42_2 : Int) := zO
      have q306 : x42_2 < (l2.length : Int) := zO
      obtain ⟨ad306, e306, hx306_0⟩ := zbf HR2.out x42_2 p306 q306
      cases e306
      replace hx306_0 := (HB.out.cell (zb w _ hx306_0)).trans hx306_0
      replace p306 := eq_true p306
      replace q306 := eq_true q306
      go_wp2_with (first | ((with_reducible refine gate_callee (f := 88) rfl ?_); refine goesL_ (some 51) rfl rfl Try.func88 zG130 rfl #[.int .i64 (rd l2 x42_2), .int .i64 0, .int .i64 (wrap64 ((l1.length : Int) - 1))] rfl zG93 ?_; (with_reducible refine (impl_within.calls (rd l2 x42_2) 0 (wrap64 ((l1.length : Int) - 1)) true _ A20.out).mono ?_); rintro e w' ⟨rfl, ⟨nd, rfl⟩⟩; refine ⟨_, rfl, ?_⟩; (try (rw [drewN_self wr]; generalize hq_ : World.drewN wr _ = wr; have n0_ : Aside0 (wr.heap[gb297]? = some (.cells #[.slice none 0 0, .int .i64 x298001_2] 64 (0, 0))) := ⟨zH89⟩; have n1_ : Aside0 (Below w.heap.size w wr) := ⟨by rw [← hq_]; exact zG95⟩; clear BK297 HB hq_; have BK297 := n0_; have HB := n1_; clear n0_ n1_)); (try have hcu28_0 : wr.cell? ⟨gb297, 0, none⟩ = some (.slice none 0 0) := (zk BK297.out 0).trans rfl); (try have hcu28_1 : wr.cell? ⟨gb297, 1, none⟩ = some (.int .i64 x298001_2) := (zk BK297.out 1).trans rfl); (try have hfcu28_0 := zj BK297.out 0); (try have hfcu28_1 := zj BK297.out 1); obtain ⟨i029, hi029, _, hsz29, _⟩ := info_parts info3; obtain ⟨hcut29, hA29, hC29⟩ := print_take_of (P := Try.prog) (Value.int .i64) 0 24 3 .i64 Try.underlying24 hi029 hsz29 (some ad306) c2 l2 x42_2 zO zO HC2.out; have HR308 := za (zcd (h1 := fun _ => rfl) (hA29 _ (zce HR2.out))); have HC308 := za hC29; clear hA29 hC29 hi029 hsz29) | ((with_reducible refine gate_callee (f := 98) rfl ?_); refine goesL_ (some 61) rfl rfl Try.func98 zG130 rfl #[.slice A0 l0.length c0, .slice A1 l1.length c1, .slice (some ad306) (l2.take (x42_2 : Int).toNat).length c2, .int .i64 (rd l2 x42_2)] rfl zK173 ?_; (with_reducible refine (impl_shiftCode.calls k2 _ _ l0 _ _ l1 _ _ (l2.take (x42_2 : Int).toNat) (rd l2 x42_2) t309 _ ?side1 ?side2 ?side3 ?side4 ?side5 ?side6 A24.out).mono ?_); (case side1 => exact zH63); (case side2 => exact HC0.out); (case side3 => exact zH62); (case side4 => exact HC1.out); (case side5 => repeat (first | exact (zah HR308.out HB.out) | (with_reducible refine zaa ?_ _) | (with_reducible refine zab ?_ _) | (with_reducible refine zac ?_))); (case side6 => exact HC308.out); rintro e w30 ⟨rfl, hb⟩; refine ⟨_, rfl, ?_⟩; have n_ := zA_ (za (zp (g := gb297) (o := .cells #[.slice none 0 0, .int .i64 x298001_2] 64 (0, 0)) zK239 hb)) (za (zr zG95 hb)); clear BK297 HB; obtain ⟨BK297, HB⟩ := n_; (try clear hb); obtain ⟨hcz31_0, hcz31_1, hfz31_0, hfz31_1⟩ := zB2 BK297.out))
      refine bodyPost_ret (results_ctt rfl _ _ gb297 64 #[.slice none 0 0, .int .i64 0] (0, 0) _ rfl zK140 Try.underlying64 rfl zG130) rfl ?_
      exact zH19
     rw [if_pos c25] at H
     have c25b0 : (t309 == 0) = true := beq_iff_eq.mpr c25
     have c25b1 : (t309 != 0) = false := bne_eq_false_iff_eq.mpr c25
     clear c25
     have H' := za H
     clear H
     have p306 : 0 ≤ (x42_2 : Int) := zO
     have q306 : x42_2 < (l2.length : Int) := zO
     obtain ⟨ad306, e306, hx306_0⟩ := zbf HR2.out x42_2 p306 q306
     cases e306
     replace hx306_0 := (HB.out.cell (zb w _ hx306_0)).trans hx306_0
     replace p306 := eq_true p306
     replace q306 := eq_true q306
     go_wp2_with (first | ((with_reducible refine gate_callee (f := 88) rfl ?_); refine goesL_ (some 51) rfl rfl Try.func88 zG130 rfl #[.int .i64 (rd l2 x42_2), .int .i64 0, .int .i64 (wrap64 ((l1.length : Int) - 1))] rfl zG93 ?_; (with_reducible refine (impl_within.calls (rd l2 x42_2) 0 (wrap64 ((l1.length : Int) - 1)) true _ A20.out).mono ?_); rintro e w' ⟨rfl, ⟨nd, rfl⟩⟩; refine ⟨_, rfl, ?_⟩; obtain ⟨i026, hi026, _, hsz26, _⟩ := info_parts info3; obtain ⟨hcut26, hA26, hC26⟩ := print_take_of (P := Try.prog) (Value.int .i64) 0 24 3 .i64 Try.underlying24 hi026 hsz26 (some ad306) c2 l2 x42_2 zO zO HC2.out; have HR308 := za (zcd (h1 := fun _ => rfl) (hA26 _ (zce HR2.out))); have HC308 := za hC26; clear hA26 hC26 hi026 hsz26) | ((with_reducible refine gate_callee (f := 98) rfl ?_); refine goesL_ (some 61) rfl rfl Try.func98 zG130 rfl #[.slice A0 l0.length c0, .slice A1 l1.length c1, .slice (some ad306) (l2.take (x42_2 : Int).toNat).length c2, .int .i64 (rd l2 x42_2)] rfl zK173 ?_; (with_reducible refine (impl_shiftCode.calls k2 _ _ l0 _ _ l1 _ _ (l2.take (x42_2 : Int).toNat) (rd l2 x42_2) t309 _ ?side1 ?side2 ?side3 ?side4 ?side5 ?side6 A24.out).mono ?_); (case side1 => repeat (first | exact (zah HR0.out zG95) | (with_reducible refine zaa ?_ _) | (with_reducible refine zab ?_ _) | (with_reducible refine zac ?_))); (case side2 => exact HC0.out); (case side3 => exact zH68); (case side4 => exact HC1.out); (case side5 => repeat (first | exact (zah HR308.out zG95) | (with_reducible refine zaa ?_ _) | (with_reducible refine zab ?_ _) | (with_reducible refine zac ?_))); (case side6 => exact HC308.out); rintro e w27 ⟨rfl, hb⟩; refine ⟨_, rfl, ?_⟩; have n_ := zA_ (za (zp (g := gb297) (o := .cells #[.slice none 0 0, .int .i64 x298001_2] 64 (0, 0)) zK239 hb)) (za (zr zG95 hb)); clear BK297 HB; obtain ⟨BK297, HB⟩ := n_; (try clear hb)))
     go_roundg k2
     case measure => have := HJ3.out; have := HK2.out; omega
     case rel => exact ⟨(wrap64 (x42_2 + 1)), (x298001_2), zG129, H', ⟨by have := HJ3.out; have := HK2.out; omega⟩, ⟨zH106⟩, ⟨zH85⟩⟩
/-! ### spec_l01In: function 122 -/
def spec_l01In.f (a0 : Int) (a1 : Int) (a2 : Int) : Option (Bool) := if a0 ≥ a1 then (some (decide (a0 ≤ a2))) else (some false)
set_option maxHeartbeats 64000000 in
set_option maxRecDepth 100000 in
theorem spec_l01In.calls (a0 : Int) (a1 : Int) (a2 : Int) (r : Bool) (w : World) (h : spec_l01In.f a0 a1 a2 = some r) :
  Calls Try.prog 122 #[.int .i64 a0, .int .i64 a1, .int .i64 a2] w fun e w' => e = .returned (.bool r) ∧ Drawn0 w w' := by
 have H : (if a0 ≥ a1 then (some (decide (a0 ≤ a2))) else (some false)) = some r := h
 clear h
 by_cases c4 : a0 ≥ a1
 ·rw [if_pos c4] at H
  have c4b0 : decide (a1 ≤ a0) = true := decide_eq_true c4
  clear c4
  obtain rfl := Option.some.inj H
  go_enter Try.func122, Try.ntmps122
  go_wp2
  go_ret
  exact zH91
 rw [if_neg c4] at H
 have c4b0 : decide (a1 ≤ a0) = false := decide_eq_false c4
 clear c4
 obtain rfl := Option.some.inj H
 go_enter Try.func122, Try.ntmps122
 go_wp2
 go_ret
 exact zH91

end Go.Proofs.Ytojncbpeeboooaa.Y
