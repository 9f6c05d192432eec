-- squeezed
-- made by pp.py (wip/tools) out of the translation; Lean checks it
import Derived.Test.YtojncbpeeboooaaU0
import Derived.Test.YtojncbpeeboooaaU4
import Derived.Test.YtojncbpeeboooaaU5
import Derived.Test.YtojncbpeeboooaaU7
namespace Go.Proofs.Ytojncbpeeboooaa.U
open Go.RowKit Go.Proofs.YtojncbpeeboooaaW.PrintWords Go.Proofs.YtojncbpeeboooaaW.PrintLast Go.Proofs.YtojncbpeeboooaaW.PrintMore
attribute [local go_sem] max2_int min2_int max_two min_two max_three min_three max_four min_four   -- for this text's walks alone
set_option linter.unusedVariables false
set_option linter.unusedSimpArgs false


/-! ### impl_BestRoster: function 29 -/
def impl_BestRoster.j0 : Nat → Bool → List (S139) → List (S72) → Option (List Int × Int × Int)
 | 0, _, _, _ => none
 | k + 1, x9, x181000, x182000 => if x9 = true then (some (([] : List Int), 0, 2)) else ((impl_ShiftsOK.f k x181000 x182000).bind fun t185 => (if t185 = true then ((impl_BestRoster_1.f k ([] : List Int) x181000 x182000 false ([] : List Int) 0).bind fun bt189 => (if bt189.1 = true then (some (bt189.2.1, bt189.2.2, 0)) else (some (([] : List Int), 0, 8)))) else (some (([] : List Int), 0, 1))))
def impl_BestRoster.f (k : Nat) (l0 : List (S139)) (l1 : List (S72)) : Option (List Int × Int × Int) := (impl_Shift.f l0).bind fun t183 => (if t183 = true then ((impl_Worker.f l1).bind fun t184 => (impl_BestRoster.j0 k (!t184) l0 l1)) else (impl_BestRoster.j0 k true l0 l1))
theorem impl_BestRoster.mono_l : ∀ k, (∀ y0 y1 y2, LeO (impl_BestRoster.j0 k y0 y1 y2) (impl_BestRoster.j0 (k + 1) y0 y1 y2))
 | 0 => fun _ _ _ r h => by simp [impl_BestRoster.j0] at h
 | k + 1 => by
  have ih0 := impl_BestRoster.mono_l k
  ·intro y0 y1 y2
   unfold impl_BestRoster.j0
   repeat' first
   | (with_reducible exact ih0 _ _ _)
   | (with_reducible exact impl_BestRoster_1.mono _ _ _ _ _ _ _)
   | (with_reducible exact impl_ShiftsOK.mono _ _ _)
   | (with_reducible exact LeO.refl _)
   | (with_reducible exact LeO.none _)
   | (with_reducible refine LeO.ite ?_ ?_)
   | (with_reducible refine LeO.bind ?_ (fun _ => ?_))
   | exact ih0 _ _ _
   | exact impl_BestRoster_1.mono _ _ _ _ _ _ _
   | exact impl_ShiftsOK.mono _ _ _
   | exact LeO.none _
   | refine LeO.ite ?_ ?_
   | refine LeO.bind ?_ (fun _ => ?_)
theorem impl_BestRoster.mono : ∀ a0 a1 k, LeO (impl_BestRoster.f k a0 a1) (impl_BestRoster.f (k + 1) a0 a1) := by
 intro a0 a1 k
 have ih0 := impl_BestRoster.mono_l k
 unfold impl_BestRoster.f
 repeat' first
   | (with_reducible exact ih0 _ _ _)
   | (with_reducible exact impl_BestRoster_1.mono _ _ _ _ _ _ _)
   | (with_reducible exact impl_ShiftsOK.mono _ _ _)
   | (with_reducible exact LeO.refl _)
   | (with_reducible exact LeO.none _)
   | (with_reducible refine LeO.ite ?_ ?_)
   | (with_reducible refine LeO.bind ?_ (fun _ => ?_))
   | exact ih0 _ _ _
   | exact impl_BestRoster_1.mono _ _ _ _ _ _ _
   | exact impl_ShiftsOK.mono _ _ _
   | exact LeO.none _
   | refine LeO.ite ?_ ?_
   | refine LeO.bind ?_ (fun _ => ?_)
set_option maxHeartbeats 64000000 in
set_option maxRecDepth 100000 in
theorem impl_BestRoster.calls (k : Nat) (A0 : Option Addr) (c0 : Nat) (l0 : List (S139)) (A1 : Option Addr) (c1 : Nat) (l1 : List (S72)) (r1 : List Int) (r2 : Int) (r3 : Int) (w : World) (hr0 : Kd.C k139 w A0 l0.length l0) (hc0 : l0.length ≤ c0) (hr1 : Kd.C k72 w A1 l1.length l1) (hc1 : l1.length ≤ c1) (h : impl_BestRoster.f k l0 l1 = some (r1, r2, r3)) :
  Calls Try.prog 29 #[.slice A0 l0.length c0, .slice A1 l1.length c1] w fun e w' => ∃ v0_ : Value, e = .returned (.tuple #[.agg #[v0_, .int .i64 r2], .int .i64 r3]) ∧ Kd.R (Kd.int .i64) 3 w' w.heap.size (fun _ => True) v0_ r1 ∧ Below w.heap.size w w' := by
 have hu59 := Try.underlying59
 have hu60 := Try.underlying60
 have hu64 := Try.underlying64
 have hu4 := Try.underlying4
 have hu106 := Try.underlying106
 obtain ⟨HR0, HC0, HR1, HC1, HB⟩ := zD5 hr0 hc0 hr1 hc1 (Below.refl w.heap.size w)
 clear hr0 hc0 hr1 hc1
 have H : ((impl_Shift.f l0).bind fun t183 => (if t183 = true then ((impl_Worker.f l1).bind fun t184 => (impl_BestRoster.j0 k (!t184) l0 l1)) else (impl_BestRoster.j0 k true l0 l1))) = some (r1, r2, r3) := h
 clear h
 have HC3 := zb H
 clear H
 go_enter Try.func29, Try.ntmps29
 go_upto_region 1 with (first | ((with_reducible refine gate_dst (N := 2) rfl ?_); refine box_event ?hg (N := 2) ?hd (cs := #[.slice A0 l0.length c0]) (t := 59) ?hr ?_; (case hd => rfl); (case hg => rfl); (case hr => exact zH117); intro gb180 hg w4 hbox hb; have n_ := zA_ (zb (zp zG77 hb)) (zA_ (zb (hbox)) (zA_ (zN1 w.heap.size hg (zo zG77)) (zN1 w.heap.size hg (zo zG77)))); clear HB; obtain ⟨HB, BK180, GW180, GE180⟩ := n_; clear hb hbox hg) | ((with_reducible refine gate_dst (N := 3) rfl ?_); refine box_event ?hg (N := 3) ?hd (cs := #[.slice A1 l1.length c1]) (t := 60) ?hr ?_; (case hd => rfl); (case hg => rfl); (case hr => exact zH117); intro gb181 hg w5 hbox hb; have n_ := zA_ (zb (zq (g := gb180) (o := .cells #[.slice A0 l0.length c0] 59 (0, 0)) zG81 hb)) (zA_ (zb (zp zK184 hb)) (zA_ (zb (hbox)) (zA_ (zN1 w.heap.size hg (zo zK184)) (zA_ (zN1 w.heap.size hg (zo zK184)) (zN2 hg (zaa (g := gb180) (o := .cells #[.slice A0 l0.length c0] 59 (0, 0)) zG81)))))); clear BK180 HB; obtain ⟨BK180, HB, BK181, GW181, GE181, NB180_181, NB181_180⟩ := n_; clear hb hbox hg) | ((with_reducible refine gate_dst (N := 4) rfl ?_); refine box_event ?hg (N := 4) ?hd (cs := #[.slice none 0 0, .int .i64 0]) (t := 64) ?hr ?_; (case hd => rfl); (case hg => rfl); (case hr => exact zH117); intro gb182 hg w6 hbox hb; have n_ := zA_ (zb (zq (g := gb180) (o := .cells #[.slice A0 l0.length c0] 59 (0, 0)) zG81 hb)) (zA_ (zb (zq (g := gb181) (o := .cells #[.slice A1 l1.length c1] 60 (0, 0)) zG82 hb)) (zA_ (zb (zp zK180 hb)) (zA_ (zb (hbox)) (zA_ (zN1 w.heap.size hg (zo zK180)) (zA_ (zN1 w.heap.size hg (zo zK180)) (zN3 hg (zaa (g := gb180) (o := .cells #[.slice A0 l0.length c0] 59 (0, 0)) zG81) (zN2 hg (zaa (g := gb181) (o := .cells #[.slice A1 l1.length c1] 60 (0, 0)) zG82)))))))); clear BK180 BK181 HB; obtain ⟨BK180, BK181, HB, BK182, GW182, GE182, NB180_182, NB182_180, NB181_182, NB182_181⟩ := n_; clear hb hbox hg))
 (try simp only [Act.put, List.setIfInBounds_toArray, List.set_cons_zero, List.set_cons_succ])
 go_cut [9] (fun v9 wc => ∃ (kq : Nat) (x9_2 : Bool), v9 = .bool x9_2 ∧ Aside0 (impl_BestRoster.j0 kq x9_2 l0 l1 = some (r1, r2, r3)) ∧ Aside0 (kq ≤ k) ∧ Aside0 (wc.heap[gb180]? = some (.cells #[(.slice A0 l0.length c0)] 59 (0, 0))) ∧ Aside0 (wc.heap[gb181]? = some (.cells #[(.slice A1 l1.length c1)] 60 (0, 0))) ∧ Aside0 (wc.heap[gb182]? = some (.cells #[(.slice none 0 0), .int .i64 0] 64 (0, 0))) ∧ Aside0 (Below w.heap.size w wc))
 case first =>
  have H := HC3.out
  clear HC3
  replace H := Option.bind_eq_some_iff.mp H
  obtain ⟨t183, A70, H⟩ := H
  replace H : (if t183 = true then ((impl_Worker.f l1).bind fun t184 => (impl_BestRoster.j0 k (!t184) l0 l1)) else (impl_BestRoster.j0 k true l0 l1)) = some (r1, r2, r3) := H
  have A7 := zb A70
  clear A70
  by_cases c8 : t183 = true
  rotate_left
  ·replace c8 := Bool.eq_false_iff.mpr c8
   subst c8
   have H1 : (impl_BestRoster.j0 k true l0 l1) = some (r1, r2, r3) := by rw [if_neg (show ¬ (false = true) by decide)] at H; exact H
   clear H
   have H := H1
   clear H1
   have H' := zb H
   clear H
   have hnb15 := NB180_181.out
   have hnc15 := NB181_180.out
   have hnb16 := NB180_182.out
   have hnc16 := NB182_180.out
   obtain ⟨hcz17_0, hfz17_0⟩ := zB1 BK180.out
   go_wp2_with (first | ((with_reducible refine gate_callee (f := 94) rfl ?_); refine goesL_ (some 11) rfl rfl Try.func94 zG101 rfl #[.slice A0 l0.length c0] rfl zG67 ?_; (with_reducible refine (impl_Shift.calls _ _ l0 false _ ?side1 ?side2 A7.out).mono ?_); (case side1 => exact zH62); (case side2 => exact HC0.out); rintro e w' ⟨rfl, ⟨nd, rfl⟩⟩; refine ⟨_, rfl, ?_⟩))
   go_meet
   case rel => exact ⟨_, (true), zG100, H', ⟨zH118⟩, ⟨by (with_reducible repeat (first | refine zf ?_ _ | refine zi ?_ | refine zg ?_ _)); exact BK180.out⟩, ⟨by (with_reducible repeat (first | refine zf ?_ _ | refine zi ?_ | refine zg ?_ _)); exact BK181.out⟩, ⟨by (with_reducible repeat (first | refine zf ?_ _ | refine zi ?_ | refine zg ?_ _)); exact BK182.out⟩, ⟨zH35⟩⟩
  subst c8
  have H1 : ((impl_Worker.f l1).bind fun t184 => (impl_BestRoster.j0 k (!t184) l0 l1)) = some (r1, r2, r3) := by rw [if_pos rfl] at H; exact H
  clear H
  have H := H1
  clear H1
  replace H := Option.bind_eq_some_iff.mp H
  obtain ⟨t184, A90, H⟩ := H
  replace H : (impl_BestRoster.j0 k (!t184) l0 l1) = some (r1, r2, r3) := H
  have A9 := zb A90
  clear A90
  have H' := zb H
  clear H
  have hnb10 := NB180_181.out
  have hnc10 := NB181_180.out
  have hnb11 := NB180_182.out
  have hnc11 := NB182_180.out
  obtain ⟨hcz12_0, hfz12_0⟩ := zB1 BK180.out
  go_wp2_with (first | ((with_reducible refine gate_callee (f := 94) rfl ?_); refine goesL_ (some 11) rfl rfl Try.func94 zG101 rfl #[.slice A0 l0.length c0] rfl zG67 ?_; (with_reducible refine (impl_Shift.calls _ _ l0 true _ ?side1 ?side2 A7.out).mono ?_); (case side1 => exact zH62); (case side2 => exact HC0.out); rintro e w' ⟨rfl, ⟨nd, rfl⟩⟩; refine ⟨_, rfl, ?_⟩; have hnb13 := NB181_182.out; have hnc13 := NB182_181.out; obtain ⟨hcz14_0, hfz14_0⟩ := zB1 BK181.out) | (go_at_call 95; (with_reducible refine (impl_Worker.calls _ _ l1 t184 _ ?side1 ?side2 A9.out).mono ?_); (case side1 => repeat (first | exact (zz HR1.out zG64) | (with_reducible refine zt ?_ _) | (with_reducible refine zu ?_ _) | (with_reducible refine zv ?_))); (case side2 => exact HC1.out); rintro e w' ⟨rfl, ⟨nd, rfl⟩⟩))
  go_meet
  case rel => exact ⟨_, (!t184), zG100, H', ⟨zH118⟩, ⟨by (with_reducible repeat (first | refine zf ?_ _ | refine zi ?_ | refine zg ?_ _)); exact BK180.out⟩, ⟨by (with_reducible repeat (first | refine zf ?_ _ | refine zi ?_ | refine zg ?_ _)); exact BK181.out⟩, ⟨by (with_reducible repeat (first | refine zf ?_ _ | refine zi ?_ | refine zg ?_ _)); exact BK182.out⟩, ⟨zH35⟩⟩
 case rest =>
  clear HC3
  try clear c1
  try clear c8
  try clear hcz12_0
  try clear hcz14_0
  try clear hcz17_0
  try clear hfz12_0
  try clear hfz14_0
  try clear hfz17_0
  obtain ⟨kq, x9_2, rfl, HA, HJ2, BK180, BK181, BK182, HB⟩ := hcut
  cases kq with
  | zero => exact absurd HA.out (by simp [impl_BestRoster.j0])
  | succ kj2 =>
   have H := HA.out
   clear HA
   simp only [impl_BestRoster.j0] at H
   by_cases c18 : x9_2 = true
   ·subst c18
    have H1 : (some (([] : List Int), 0, 2)) = some (r1, r2, r3) := by rw [if_pos rfl] at H; exact H
    clear H
    have H := H1
    clear H1
    simp only [Option.some.injEq, Prod.mk.injEq] at H
    obtain ⟨rfl, rfl, rfl⟩ := H
    have hnb19 := NB182_180.out
    have hnc19 := NB180_182.out
    have hnb20 := NB182_181.out
    have hnc20 := NB181_182.out
    obtain ⟨hcz21_0, hcz21_1, hfz21_0, hfz21_1⟩ := zB2 BK182.out
    go_wp2
    refine bodyPost_ret (results_ct rfl _ _ gb182 64 #[.slice none 0 0, .int .i64 0] (0, 0) _ rfl zK131 Try.underlying64 rfl zG101) rfl ?_
    exact zH11
   replace c18 := Bool.eq_false_iff.mpr c18
   subst c18
   have H1 : ((impl_ShiftsOK.f kj2 l0 l1).bind fun t185 => (if t185 = true then ((impl_BestRoster_1.f kj2 ([] : List Int) l0 l1 false ([] : List Int) 0).bind fun bt189 => (if bt189.1 = true then (some (bt189.2.1, bt189.2.2, 0)) else (some (([] : List Int), 0, 8)))) else (some (([] : List Int), 0, 1)))) = some (r1, r2, r3) := by rw [if_neg (show ¬ (false = true) by decide)] at H; exact H
   clear H
   have H := H1
   clear H1
   replace H := Option.bind_eq_some_iff.mp H
   obtain ⟨t185, A220, H⟩ := H
   replace H : (if t185 = true then ((impl_BestRoster_1.f kj2 ([] : List Int) l0 l1 false ([] : List Int) 0).bind fun bt189 => (if bt189.1 = true then (some (bt189.2.1, bt189.2.2, 0)) else (some (([] : List Int), 0, 8)))) else (some (([] : List Int), 0, 1))) = some (r1, r2, r3) := H
   have A22 := zb A220
   clear A220
   by_cases c23 : t185 = true
   rotate_left
   ·replace c23 := Bool.eq_false_iff.mpr c23
    subst c23
    have H1 : (some (([] : List Int), 0, 1)) = some (r1, r2, r3) := by rw [if_neg (show ¬ (false = true) by decide)] at H; exact H
    clear H
    have H := H1
    clear H1
    simp only [Option.some.injEq, Prod.mk.injEq] at H
    obtain ⟨rfl, rfl, rfl⟩ := H
    have hnb86 := NB180_181.out
    have hnc86 := NB181_180.out
    have hnb87 := NB180_182.out
    have hnc87 := NB182_180.out
    obtain ⟨hcz88_0, hfz88_0⟩ := zB1 BK180.out
    have hnb89 := NB181_182.out
    have hnc89 := NB182_181.out
    obtain ⟨hcz90_0, hfz90_0⟩ := zB1 BK181.out
    go_wp2_with (first | ((with_reducible refine gate_callee (f := 31) rfl ?_); refine goesL_ (some 22) rfl rfl Try.func31 zG101 rfl #[.slice A0 l0.length c0, .slice A1 l1.length c1] rfl zG67 ?_; (with_reducible refine (impl_ShiftsOK.calls kj2 _ _ l0 _ _ l1 false _ ?side1 ?side2 ?side3 ?side4 A22.out).mono ?_); (case side1 => exact zH62); (case side2 => exact HC0.out); (case side3 => exact zH61); (case side4 => exact HC1.out); rintro e w91 ⟨rfl, hb⟩; refine ⟨_, rfl, ?_⟩; have n_ := zA_ (zb (zq (g := gb180) (o := .cells #[.slice A0 l0.length c0] 59 (0, 0)) zG81 hb)) (zA_ (zb (zq (g := gb181) (o := .cells #[.slice A1 l1.length c1] 60 (0, 0)) zG82 hb)) (zA_ (zb (zq (g := gb182) (o := .cells #[.slice none 0 0, .int .i64 0] 64 (0, 0)) zG83 hb)) (zb (zp zG64 hb)))); clear BK180 BK181 BK182 HB; obtain ⟨BK180, BK181, BK182, HB⟩ := n_; (try clear hb); obtain ⟨hcz92_0, hcz92_1, hfz92_0, hfz92_1⟩ := zB2 BK182.out))
    refine bodyPost_ret (results_ct rfl _ _ gb182 64 #[.slice none 0 0, .int .i64 0] (0, 0) _ rfl zK131 Try.underlying64 rfl zG101) rfl ?_
    exact zH11

   subst c23
   have H1 : ((impl_BestRoster_1.f kj2 ([] : List Int) l0 l1 false ([] : List Int) 0).bind fun bt189 => (if bt189.1 = true then (some (bt189.2.1, bt189.2.2, 0)) else (some (([] : List Int), 0, 8)))) = some (r1, r2, r3) := by rw [if_pos rfl] at H; exact H
   clear H
   have H := H1
   clear H1
   replace H := Option.bind_eq_some_iff.mp H
   obtain ⟨⟨t189, t190, t193⟩, A240, H⟩ := H
   replace H : (if t189 = true then (some (t190, t193, 0)) else (some (([] : List Int), 0, 8))) = some (r1, r2, r3) := H
   have A24 := zb A240
   clear A240
   by_cases c25 : t189 = true
   ·subst c25
    have H1 : (some (t190, t193, 0)) = some (r1, r2, r3) := by rw [if_pos rfl] at H; exact H
    clear H
    have H := H1
    clear H1
    simp only [Option.some.injEq, Prod.mk.injEq] at H
    obtain ⟨rfl, rfl, rfl⟩ := H
    have hnb26 := NB180_181.out
    have hnc26 := NB181_180.out
    have hnb27 := NB180_182.out
    have hnc27 := NB182_180.out
    obtain ⟨hcz28_0, hfz28_0⟩ := zB1 BK180.out
    have hnb29 := NB181_182.out
    have hnc29 := NB182_181.out
    obtain ⟨hcz30_0, hfz30_0⟩ := zB1 BK181.out
    go_wp2_with (first | ((with_reducible refine gate_callee (f := 31) rfl ?_); refine goesL_ (some 22) rfl rfl Try.func31 zG101 rfl #[.slice A0 l0.length c0, .slice A1 l1.length c1] rfl zG67 ?_; (with_reducible refine (impl_ShiftsOK.calls kj2 _ _ l0 _ _ l1 true _ ?side1 ?side2 ?side3 ?side4 A22.out).mono ?_); (case side1 => exact zH62); (case side2 => exact HC0.out); (case side3 => exact zH61); (case side4 => exact HC1.out); rintro e w31 ⟨rfl, hb⟩; refine ⟨_, rfl, ?_⟩; have n_ := zA_ (zb (zq (g := gb180) (o := .cells #[.slice A0 l0.length c0] 59 (0, 0)) zG81 hb)) (zA_ (zb (zq (g := gb181) (o := .cells #[.slice A1 l1.length c1] 60 (0, 0)) zG82 hb)) (zA_ (zb (zq (g := gb182) (o := .cells #[.slice none 0 0, .int .i64 0] 64 (0, 0)) zG83 hb)) (zb (zp zG64 hb)))); clear BK180 BK181 BK182 HB; obtain ⟨BK180, BK181, BK182, HB⟩ := n_; (try clear hb)) | ((with_reducible refine gate_dst (N := 6) rfl ?_); refine box_event ?hg (N := 6) ?hd (cs := #[.slice none 0 0, .int .i64 0]) (t := 64) ?hr ?_; (case hd => rfl); (case hg => rfl); (case hr => exact zH117); intro gb186 hg w32 hbox hb; have n_ := zA_ (zb (zq (g := gb180) (o := .cells #[.slice A0 l0.length c0] 59 (0, 0)) zG81 hb)) (zA_ (zb (zq (g := gb181) (o := .cells #[.slice A1 l1.length c1] 60 (0, 0)) zG82 hb)) (zA_ (zb (zq (g := gb182) (o := .cells #[.slice none 0 0, .int .i64 0] 64 (0, 0)) zG83 hb)) (zA_ (zb (zp zG64 hb)) (zA_ (zb (hbox)) (zA_ (zN1 w.heap.size hg (zo zG64)) (zA_ (zN1 w.heap.size hg (zo zG64)) (zN3 hg (zaa (g := gb180) (o := .cells #[.slice A0 l0.length c0] 59 (0, 0)) zG81) (zN3 hg (zaa (g := gb181) (o := .cells #[.slice A1 l1.length c1] 60 (0, 0)) zG82) (zN2 hg (zaa (g := gb182) (o := .cells #[.slice none 0 0, .int .i64 0] 64 (0, 0)) zG83)))))))))); clear BK180 BK181 BK182 HB; obtain ⟨BK180, BK181, BK182, HB, BK186, GW186, GE186, NB180_186, NB186_180, NB181_186, NB186_181, NB182_186, NB186_182⟩ := n_; clear hb hbox hg) | ((with_reducible refine gate_dst (N := 7) rfl ?_); refine box_event ?hg (N := 7) ?hd (cs := #[.bool false]) (t := 4) ?hr ?_; (case hd => rfl); (case hg => rfl); (case hr => exact zH117); intro gb187 hg w33 hbox hb; have n_ := zA_ (zb (zq (g := gb180) (o := .cells #[.slice A0 l0.length c0] 59 (0, 0)) zG81 hb)) (zA_ (zb (zq (g := gb181) (o := .cells #[.slice A1 l1.length c1] 60 (0, 0)) zG82 hb)) (zA_ (zb (zq (g := gb182) (o := .cells #[.slice none 0 0, .int .i64 0] 64 (0, 0)) zG83 hb)) (zA_ (zb (zq (g := gb186) (o := .cells #[.slice none 0 0, .int .i64 0] 64 (0, 0)) zK207 hb)) (zA_ (zb (zp zK175 hb)) (zA_ (zb (hbox)) (zA_ (zN1 w.heap.size hg (zo zK175)) (zA_ (zN1 w.heap.size hg (zo zK175)) (zN3 hg (zaa (g := gb180) (o := .cells #[.slice A0 l0.length c0] 59 (0, 0)) zG81) (zN3 hg (zaa (g := gb181) (o := .cells #[.slice A1 l1.length c1] 60 (0, 0)) zG82) (zN3 hg (zaa (g := gb182) (o := .cells #[.slice none 0 0, .int .i64 0] 64 (0, 0)) zG83) (zN2 hg (zaa (g := gb186) (o := .cells #[.slice none 0 0, .int .i64 0] 64 (0, 0)) zK207)))))))))))); clear BK180 BK181 BK182 BK186 HB; obtain ⟨BK180, BK181, BK182, BK186, HB, BK187, GW187, GE187, NB180_187, NB187_180, NB181_187, NB187_181, NB182_187, NB187_182, NB186_187, NB187_186⟩ := n_; clear hb hbox hg; have hnb34 := NB186_180.out; have hnc34 := NB180_186.out; have hnb35 := NB186_181.out; have hnc35 := NB181_186.out; have hnb36 := NB186_182.out; have hnc36 := NB182_186.out; have hnb37 := NB186_187.out; have hnc37 := NB187_186.out; obtain ⟨hcz38_0, hcz38_1, hfz38_0, hfz38_1⟩ := zB2 BK186.out; have hnb39 := NB187_180.out; have hnc39 := NB180_187.out; have hnb40 := NB187_181.out; have hnc40 := NB181_187.out; have hnb41 := NB187_182.out; have hnc41 := NB182_187.out; obtain ⟨hcz42_0, hfz42_0⟩ := zB1 BK187.out) | ((with_reducible refine gate_dst (N := 8) rfl ?_); refine box_event ?hg (N := 8) ?hd (cs := #[.nilFunc]) (t := 106) ?hr ?_; (case hd => rfl); (case hg => rfl); (case hr => exact zH117); intro gb188 hg w43 hbox hb; have n_ := zA_ (zb (zq (g := gb180) (o := .cells #[.slice A0 l0.length c0] 59 (0, 0)) zK125 hb)) (zA_ (zb (zq (g := gb181) (o := .cells #[.slice A1 l1.length c1] 60 (0, 0)) zK126 hb)) (zA_ (zb (zq (g := gb182) (o := .cells #[.slice none 0 0, .int .i64 0] 64 (0, 0)) zK127 hb)) (zA_ (zb (zq (g := gb186) (o := .cells #[.slice none 0 0, .int .i64 0] 64 (0, 0)) zK123 hb)) (zA_ (zb (zq (g := gb187) (o := .cells #[.bool false] 4 (0, 0)) zK124 hb)) (zA_ (zb (zp zK174 hb)) (zA_ (zb (hbox)) (zA_ (zN1 w.heap.size hg (zo zK174)) (zA_ (zN1 w.heap.size hg (zo zK174)) (zN3 hg (zaa (g := gb180) (o := .cells #[.slice A0 l0.length c0] 59 (0, 0)) zK125) (zN3 hg (zaa (g := gb181) (o := .cells #[.slice A1 l1.length c1] 60 (0, 0)) zK126) (zN3 hg (zaa (g := gb182) (o := .cells #[.slice none 0 0, .int .i64 0] 64 (0, 0)) zK127) (zN3 hg (zaa (g := gb186) (o := .cells #[.slice none 0 0, .int .i64 0] 64 (0, 0)) zK123) (zN2 hg (zaa (g := gb187) (o := .cells #[.bool false] 4 (0, 0)) zK124)))))))))))))); clear BK180 BK181 BK182 BK186 BK187 HB; obtain ⟨BK180, BK181, BK182, BK186, BK187, HB, BK188, GW188, GE188, NB180_188, NB188_180, NB181_188, NB188_181, NB182_188, NB188_182, NB186_188, NB188_186, NB187_188, NB188_187⟩ := n_; clear hb hbox hg; have hnb44 := NB188_180.out; have hnc44 := NB180_188.out; have hnb45 := NB188_181.out; have hnc45 := NB181_188.out; have hnb46 := NB188_182.out; have hnc46 := NB182_188.out; have hnb47 := NB188_186.out; have hnc47 := NB186_188.out; have hnb48 := NB188_187.out; have hnc48 := NB187_188.out; obtain ⟨hcz49_0, hfz49_0⟩ := zB1 BK188.out) | ((with_reducible refine gate_store (t := 106) (p := 8) rfl ?_); refine store_event (t := 106) (p := 8) (v := ?vo_w50) (w1 := (w43.setCell ⟨gb188, 0, none⟩ (.func (.func 96) #[] #[.pointer (some ⟨gb180, 0, none⟩), .pointer (some ⟨gb181, 0, none⟩), .pointer (some ⟨gb187, 0, none⟩), .pointer (some ⟨gb186, 0, none⟩), .pointer (some ⟨gb188, 0, none⟩)]))) ?hg ?ho ?hn ?hr ?_; (case ho => rfl); (case hg => rfl); (case hn => rfl); (case hr => exact zH117); intro w50 hw; have n0_ : Aside0 (w50.heap[gb180]? = some (.cells #[.slice A0 l0.length c0] 59 (0, 0))) := ⟨zK168⟩; have n1_ : Aside0 (w50.heap[gb181]? = some (.cells #[.slice A1 l1.length c1] 60 (0, 0))) := ⟨zK169⟩; have n2_ : Aside0 (w50.heap[gb182]? = some (.cells #[.slice none 0 0, .int .i64 0] 64 (0, 0))) := ⟨zK170⟩; have n3_ : Aside0 (w50.heap[gb186]? = some (.cells #[.slice none 0 0, .int .i64 0] 64 (0, 0))) := ⟨zK171⟩; have n4_ : Aside0 (w50.heap[gb187]? = some (.cells #[.bool false] 4 (0, 0))) := ⟨zK172⟩; have n5_ : Aside0 (w50.heap[gb188]? = some (.cells #[.func (.func 96) #[] #[.pointer (some ⟨gb180, 0, none⟩), .pointer (some ⟨gb181, 0, none⟩), .pointer (some ⟨gb187, 0, none⟩), .pointer (some ⟨gb186, 0, none⟩), .pointer (some ⟨gb188, 0, none⟩)]] 106 (0, 0))) := ⟨zK167⟩; have n6_ : Aside0 (Below w.heap.size w w50) := ⟨zK165⟩; clear hw BK180; clear BK181 BK182; clear BK186 BK187; clear BK188 HB; have BK180 := n0_; have BK181 := n1_; have BK182 := n2_; have BK186 := n3_; have BK187 := n4_; have BK188 := n5_; have HB := n6_; clear n0_ n1_ n2_ n3_ n4_ n5_ n6_; obtain ⟨hcz51_0, hfz51_0⟩ := zB1 BK188.out) | (go_at_call 96; (refine (impl_BestRoster_1.calls kj2 _ _ ([] : List Int) gb180 A0 c0 l0 gb181 A1 c1 l1 gb187 false gb186 (fun k_ => some k_ = (.slice none 0 0 : Value).ownBlock) (.slice none 0 0) ([] : List Int) 0 gb188 true t190 t193 w _ ?side1 ?side2 ?side3 ?side4 ?side5 ?side6 ?side7 ?side8 ?side9 ?side10 ?side11 ?side12 ?side13 ?side14 ?side15 ?side16 ?side17 ?side18 ?side19 ?side20 ?side21 ?side22 ?side23 ?side24 ?side25 A24.out).mono ?_); (case side1 => exact zH24); (case side2 => exact Kd.C_kept_nil); (case side3 => exact Nat.le_refl _); (case side4 => exact zG81); (case side5 => exact zH6); (case side6 => exact HC0.out); (case side7 => exact zG82); (case side8 => exact NB180_181.out); (case side9 => exact zH7); (case side10 => exact HC1.out); (case side11 => exact zH85); (case side12 => exact GE187.out); (case side13 => exact NB180_187.out); (case side14 => exact NB181_187.out); (case side15 => exact zH84); (case side16 => exact GE186.out); (case side17 => exact NB180_186.out); (case side18 => exact NB181_186.out); (case side19 => exact NB187_186.out); (case side20 => exact zaz _ _ _ _ _); (case side21 => exact zH86); (case side22 => exact NB180_188.out); (case side23 => exact NB181_188.out); (case side24 => exact NB187_188.out); (case side25 => exact NB186_188.out); rintro e w52 ⟨v191, rfl, ho0, hz0, hz1, hb, hkp⟩; have n_ := zA_ (zb (zan zG81 hkp (fun hs_ => Or.elim hs_ (fun hs_ => Or.elim hs_ (fun hs_ => (fun e_ => by simp [Value.ownBlock] at e_) hs_) (fun e_ => NB180_187.out e_)) (fun e_ => NB180_186.out e_)))) (zA_ (zb (zan zG82 hkp (fun hs_ => Or.elim hs_ (fun hs_ => Or.elim hs_ (fun hs_ => (fun e_ => by simp [Value.ownBlock] at e_) hs_) (fun e_ => NB181_187.out e_)) (fun e_ => NB181_186.out e_)))) (zA_ (zb (zan zG83 hkp (fun hs_ => Or.elim hs_ (fun hs_ => Or.elim hs_ (fun hs_ => (fun e_ => by simp [Value.ownBlock] at e_) hs_) (fun e_ => NB182_187.out e_)) (fun e_ => NB182_186.out e_)))) (zA_ (zb (hz1)) (zA_ (zb (hz0)) (zA_ (zb (zan (by (with_reducible repeat (first | refine zf ?_ _ | refine zi ?_ | refine zg ?_ _)); exact BK188.out) hkp (fun hs_ => Or.elim hs_ (fun hs_ => Or.elim hs_ (fun hs_ => (fun e_ => by simp [Value.ownBlock] at e_) hs_) (fun e_ => NB188_187.out e_)) (fun e_ => NB188_186.out e_)))) (zA_ (zb (zx (ok' := fun k_ => True) ho0 (fun k_ hk_ => trivial))) (zb (hb)))))))); clear BK180 BK181 BK182 BK186 BK187 BK188 HB; obtain ⟨BK180, BK181, BK182, BK186, BK187, BK188, HO192, HB⟩ := n_; (try clear hb); (try clear hkp); (try clear ho0); (try clear hz0); (try clear hz1); obtain ⟨hcz53_0, hfz53_0⟩ := zB1 BK187.out; obtain ⟨hcz54_0, hcz54_1, hfz54_0, hfz54_1⟩ := zB2 BK186.out; obtain ⟨Ao55, co55, eo55⟩ := zaf HO192.out; subst eo55; obtain ⟨hcz56_0, hcz56_1, hfz56_0, hfz56_1⟩ := zB2 BK182.out))
    refine bodyPost_ret (results_ct rfl _ _ gb182 64 #[.slice Ao55 t190.length co55, .int .i64 t193] (0, 0) _ rfl (by (with_reducible repeat (first | refine zf ?_ _ | refine zi ?_ | refine zg ?_ _)); refine zs (cs := #[.slice Ao55 t190.length co55, .int .i64 0]) ?_ 1 _ rfl; (with_reducible repeat (first | refine zf ?_ _ | refine zi ?_ | refine zg ?_ _)); refine zs (cs := #[.slice none 0 0, .int .i64 0]) ?_ 0 _ rfl; (with_reducible repeat (first | refine zf ?_ _ | refine zi ?_ | refine zg ?_ _)); exact BK182.out) Try.underlying64 rfl zG101) rfl ?_
    exact ⟨_, zH104, by (with_reducible repeat (first | apply zl | apply zm | apply zn)); exact zx (zy (p := ⟨gb182, 1, none⟩) (zy (p := ⟨gb182, 0, none⟩) (zab HO192.out BK182.out (by decide)) (fun _ hk => hk.2) (.slice Ao55 t190.length co55)) (fun _ hk => hk.2) (.int .i64 t193)) (fun _ hk => trivial), zH23⟩
   replace c25 := Bool.eq_false_iff.mpr c25
   subst c25
   have H1 : (some (([] : List Int), 0, 8)) = some (r1, r2, r3) := by rw [if_neg (show ¬ (false = true) by decide)] at H; exact H
   clear H
   have H := H1
   clear H1
   simp only [Option.some.injEq, Prod.mk.injEq] at H
   obtain ⟨rfl, rfl, rfl⟩ := H
   have hnb57 := NB180_181.out
   have hnc57 := NB181_180.out
   have hnb58 := NB180_182.out
   have hnc58 := NB182_180.out
   obtain ⟨hcz59_0, hfz59_0⟩ := zB1 BK180.out
   have hnb60 := NB181_182.out
   have hnc60 := NB182_181.out
   obtain ⟨hcz61_0, hfz61_0⟩ := zB1 BK181.out
   go_wp2_with (first | ((with_reducible refine gate_callee (f := 31) rfl ?_); refine goesL_ (some 22) rfl rfl Try.func31 zG101 rfl #[.slice A0 l0.length c0, .slice A1 l1.length c1] rfl zG67 ?_; (with_reducible refine (impl_ShiftsOK.calls kj2 _ _ l0 _ _ l1 true _ ?side1 ?side2 ?side3 ?side4 A22.out).mono ?_); (case side1 => exact zH62); (case side2 => exact HC0.out); (case side3 => exact zH61); (case side4 => exact HC1.out); rintro e w62 ⟨rfl, hb⟩; refine ⟨_, rfl, ?_⟩; have n_ := zA_ (zb (zq (g := gb180) (o := .cells #[.slice A0 l0.length c0] 59 (0, 0)) zG81 hb)) (zA_ (zb (zq (g := gb181) (o := .cells #[.slice A1 l1.length c1] 60 (0, 0)) zG82 hb)) (zA_ (zb (zq (g := gb182) (o := .cells #[.slice none 0 0, .int .i64 0] 64 (0, 0)) zG83 hb)) (zb (zp zG64 hb)))); clear BK180 BK181 BK182 HB; obtain ⟨BK180, BK181, BK182, HB⟩ := n_; (try clear hb)) | ((with_reducible refine gate_dst (N := 6) rfl ?_); refine box_event ?hg (N := 6) ?hd (cs := #[.slice none 0 0, .int .i64 0]) (t := 64) ?hr ?_; (case hd => rfl); (case hg => rfl); (case hr => exact zH117); intro gb186 hg w63 hbox hb; have n_ := zA_ (zb (zq (g := gb180) (o := .cells #[.slice A0 l0.length c0] 59 (0, 0)) zG81 hb)) (zA_ (zb (zq (g := gb181) (o := .cells #[.slice A1 l1.length c1] 60 (0, 0)) zG82 hb)) (zA_ (zb (zq (g := gb182) (o := .cells #[.slice none 0 0, .int .i64 0] 64 (0, 0)) zG83 hb)) (zA_ (zb (zp zG64 hb)) (zA_ (zb (hbox)) (zA_ (zN1 w.heap.size hg (zo zG64)) (zA_ (zN1 w.heap.size hg (zo zG64)) (zN3 hg (zaa (g := gb180) (o := .cells #[.slice A0 l0.length c0] 59 (0, 0)) zG81) (zN3 hg (zaa (g := gb181) (o := .cells #[.slice A1 l1.length c1] 60 (0, 0)) zG82) (zN2 hg (zaa (g := gb182) (o := .cells #[.slice none 0 0, .int .i64 0] 64 (0, 0)) zG83)))))))))); clear BK180 BK181 BK182 HB; obtain ⟨BK180, BK181, BK182, HB, BK186, GW186, GE186, NB180_186, NB186_180, NB181_186, NB186_181, NB182_186, NB186_182⟩ := n_; clear hb hbox hg) | ((with_reducible refine gate_dst (N := 7) rfl ?_); refine box_event ?hg (N := 7) ?hd (cs := #[.bool false]) (t := 4) ?hr ?_; (case hd => rfl); (case hg => rfl); (case hr => exact zH117); intro gb187 hg w64 hbox hb; have n_ := zA_ (zb (zq (g := gb180) (o := .cells #[.slice A0 l0.length c0] 59 (0, 0)) zG81 hb)) (zA_ (zb (zq (g := gb181) (o := .cells #[.slice A1 l1.length c1] 60 (0, 0)) zG82 hb)) (zA_ (zb (zq (g := gb182) (o := .cells #[.slice none 0 0, .int .i64 0] 64 (0, 0)) zG83 hb)) (zA_ (zb (zq (g := gb186) (o := .cells #[.slice none 0 0, .int .i64 0] 64 (0, 0)) zK207 hb)) (zA_ (zb (zp zK175 hb)) (zA_ (zb (hbox)) (zA_ (zN1 w.heap.size hg (zo zK175)) (zA_ (zN1 w.heap.size hg (zo zK175)) (zN3 hg (zaa (g := gb180) (o := .cells #[.slice A0 l0.length c0] 59 (0, 0)) zG81) (zN3 hg (zaa (g := gb181) (o := .cells #[.slice A1 l1.length c1] 60 (0, 0)) zG82) (zN3 hg (zaa (g := gb182) (o := .cells #[.slice none 0 0, .int .i64 0] 64 (0, 0)) zG83) (zN2 hg (zaa (g := gb186) (o := .cells #[.slice none 0 0, .int .i64 0] 64 (0, 0)) zK207)))))))))))); clear BK180 BK181 BK182 BK186 HB; obtain ⟨BK180, BK181, BK182, BK186, HB, BK187, GW187, GE187, NB180_187, NB187_180, NB181_187, NB187_181, NB182_187, NB187_182, NB186_187, NB187_186⟩ := n_; clear hb hbox hg; have hnb65 := NB186_180.out; have hnc65 := NB180_186.out; have hnb66 := NB186_181.out; have hnc66 := NB181_186.out; have hnb67 := NB186_182.out; have hnc67 := NB182_186.out; have hnb68 := NB186_187.out; have hnc68 := NB187_186.out; obtain ⟨hcz69_0, hcz69_1, hfz69_0, hfz69_1⟩ := zB2 BK186.out; have hnb70 := NB187_180.out; have hnc70 := NB180_187.out; have hnb71 := NB187_181.out; have hnc71 := NB181_187.out; have hnb72 := NB187_182.out; have hnc72 := NB182_187.out; obtain ⟨hcz73_0, hfz73_0⟩ := zB1 BK187.out) | ((with_reducible refine gate_dst (N := 8) rfl ?_); refine box_event ?hg (N := 8) ?hd (cs := #[.nilFunc]) (t := 106) ?hr ?_; (case hd => rfl); (case hg => rfl); (case hr => exact zH117); intro gb188 hg w74 hbox hb; have n_ := zA_ (zb (zq (g := gb180) (o := .cells #[.slice A0 l0.length c0] 59 (0, 0)) zK125 hb)) (zA_ (zb (zq (g := gb181) (o := .cells #[.slice A1 l1.length c1] 60 (0, 0)) zK126 hb)) (zA_ (zb (zq (g := gb182) (o := .cells #[.slice none 0 0, .int .i64 0] 64 (0, 0)) zK127 hb)) (zA_ (zb (zq (g := gb186) (o := .cells #[.slice none 0 0, .int .i64 0] 64 (0, 0)) zK123 hb)) (zA_ (zb (zq (g := gb187) (o := .cells #[.bool false] 4 (0, 0)) zK124 hb)) (zA_ (zb (zp zK174 hb)) (zA_ (zb (hbox)) (zA_ (zN1 w.heap.size hg (zo zK174)) (zA_ (zN1 w.heap.size hg (zo zK174)) (zN3 hg (zaa (g := gb180) (o := .cells #[.slice A0 l0.length c0] 59 (0, 0)) zK125) (zN3 hg (zaa (g := gb181) (o := .cells #[.slice A1 l1.length c1] 60 (0, 0)) zK126) (zN3 hg (zaa (g := gb182) (o := .cells #[.slice none 0 0, .int .i64 0] 64 (0, 0)) zK127) (zN3 hg (zaa (g := gb186) (o := .cells #[.slice none 0 0, .int .i64 0] 64 (0, 0)) zK123) (zN2 hg (zaa (g := gb187) (o := .cells #[.bool false] 4 (0, 0)) zK124)))))))))))))); clear BK180 BK181 BK182 BK186 BK187 HB; obtain ⟨BK180, BK181, BK182, BK186, BK187, HB, BK188, GW188, GE188, NB180_188, NB188_180, NB181_188, NB188_181, NB182_188, NB188_182, NB186_188, NB188_186, NB187_188, NB188_187⟩ := n_; clear hb hbox hg; have hnb75 := NB188_180.out; have hnc75 := NB180_188.out; have hnb76 := NB188_181.out; have hnc76 := NB181_188.out; have hnb77 := NB188_182.out; have hnc77 := NB182_188.out; have hnb78 := NB188_186.out; have hnc78 := NB186_188.out; have hnb79 := NB188_187.out; have hnc79 := NB187_188.out; obtain ⟨hcz80_0, hfz80_0⟩ := zB1 BK188.out) | ((with_reducible refine gate_store (t := 106) (p := 8) rfl ?_); refine store_event (t := 106) (p := 8) (v := ?vo_w81) (w1 := (w74.setCell ⟨gb188, 0, none⟩ (.func (.func 96) #[] #[.pointer (some ⟨gb180, 0, none⟩), .pointer (some ⟨gb181, 0, none⟩), .pointer (some ⟨gb187, 0, none⟩), .pointer (some ⟨gb186, 0, none⟩), .pointer (some ⟨gb188, 0, none⟩)]))) ?hg ?ho ?hn ?hr ?_; (case ho => rfl); (case hg => rfl); (case hn => rfl); (case hr => exact zH117); intro w81 hw; have n0_ : Aside0 (w81.heap[gb180]? = some (.cells #[.slice A0 l0.length c0] 59 (0, 0))) := ⟨zK168⟩; have n1_ : Aside0 (w81.heap[gb181]? = some (.cells #[.slice A1 l1.length c1] 60 (0, 0))) := ⟨zK169⟩; have n2_ : Aside0 (w81.heap[gb182]? = some (.cells #[.slice none 0 0, .int .i64 0] 64 (0, 0))) := ⟨zK170⟩; have n3_ : Aside0 (w81.heap[gb186]? = some (.cells #[.slice none 0 0, .int .i64 0] 64 (0, 0))) := ⟨zK171⟩; have n4_ : Aside0 (w81.heap[gb187]? = some (.cells #[.bool false] 4 (0, 0))) := ⟨zK172⟩; have n5_ : Aside0 (w81.heap[gb188]? = some (.cells #[.func (.func 96) #[] #[.pointer (some ⟨gb180, 0, none⟩), .pointer (some ⟨gb181, 0, none⟩), .pointer (some ⟨gb187, 0, none⟩), .pointer (some ⟨gb186, 0, none⟩), .pointer (some ⟨gb188, 0, none⟩)]] 106 (0, 0))) := ⟨zK167⟩; have n6_ : Aside0 (Below w.heap.size w w81) := ⟨zK165⟩; clear hw BK180; clear BK181 BK182; clear BK186 BK187; clear BK188 HB; have BK180 := n0_; have BK181 := n1_; have BK182 := n2_; have BK186 := n3_; have BK187 := n4_; have BK188 := n5_; have HB := n6_; clear n0_ n1_ n2_ n3_ n4_ n5_ n6_; obtain ⟨hcz82_0, hfz82_0⟩ := zB1 BK188.out) | (go_at_call 96; (refine (impl_BestRoster_1.calls kj2 _ _ ([] : List Int) gb180 A0 c0 l0 gb181 A1 c1 l1 gb187 false gb186 (fun k_ => some k_ = (.slice none 0 0 : Value).ownBlock) (.slice none 0 0) ([] : List Int) 0 gb188 false t190 t193 w _ ?side1 ?side2 ?side3 ?side4 ?side5 ?side6 ?side7 ?side8 ?side9 ?side10 ?side11 ?side12 ?side13 ?side14 ?side15 ?side16 ?side17 ?side18 ?side19 ?side20 ?side21 ?side22 ?side23 ?side24 ?side25 A24.out).mono ?_); (case side1 => exact zH24); (case side2 => exact Kd.C_kept_nil); (case side3 => exact Nat.le_refl _); (case side4 => exact zG81); (case side5 => exact zH6); (case side6 => exact HC0.out); (case side7 => exact zG82); (case side8 => exact NB180_181.out); (case side9 => exact zH7); (case side10 => exact HC1.out); (case side11 => exact zH85); (case side12 => exact GE187.out); (case side13 => exact NB180_187.out); (case side14 => exact NB181_187.out); (case side15 => exact zH84); (case side16 => exact GE186.out); (case side17 => exact NB180_186.out); (case side18 => exact NB181_186.out); (case side19 => exact NB187_186.out); (case side20 => exact zaz _ _ _ _ _); (case side21 => exact zH86); (case side22 => exact NB180_188.out); (case side23 => exact NB181_188.out); (case side24 => exact NB187_188.out); (case side25 => exact NB186_188.out); rintro e w83 ⟨v191, rfl, ho0, hz0, hz1, hb, hkp⟩; have n_ := zA_ (zb (zan zG81 hkp (fun hs_ => Or.elim hs_ (fun hs_ => Or.elim hs_ (fun hs_ => (fun e_ => by simp [Value.ownBlock] at e_) hs_) (fun e_ => NB180_187.out e_)) (fun e_ => NB180_186.out e_)))) (zA_ (zb (zan zG82 hkp (fun hs_ => Or.elim hs_ (fun hs_ => Or.elim hs_ (fun hs_ => (fun e_ => by simp [Value.ownBlock] at e_) hs_) (fun e_ => NB181_187.out e_)) (fun e_ => NB181_186.out e_)))) (zA_ (zb (zan zG83 hkp (fun hs_ => Or.elim hs_ (fun hs_ => Or.elim hs_ (fun hs_ => (fun e_ => by simp [Value.ownBlock] at e_) hs_) (fun e_ => NB182_187.out e_)) (fun e_ => NB182_186.out e_)))) (zA_ (zb (hz1)) (zA_ (zb (hz0)) (zA_ (zb (zan (by (with_reducible repeat (first | refine zf ?_ _ | refine zi ?_ | refine zg ?_ _)); exact BK188.out) hkp (fun hs_ => Or.elim hs_ (fun hs_ => Or.elim hs_ (fun hs_ => (fun e_ => by simp [Value.ownBlock] at e_) hs_) (fun e_ => NB188_187.out e_)) (fun e_ => NB188_186.out e_)))) (zA_ (zb (zx (ok' := fun k_ => True) ho0 (fun k_ hk_ => trivial))) (zb (hb)))))))); clear BK180 BK181 BK182 BK186 BK187 BK188 HB; obtain ⟨BK180, BK181, BK182, BK186, BK187, BK188, HO192, HB⟩ := n_; (try clear hb); (try clear hkp); (try clear ho0); (try clear hz0); (try clear hz1); obtain ⟨hcz84_0, hfz84_0⟩ := zB1 BK187.out; obtain ⟨hcz85_0, hcz85_1, hfz85_0, hfz85_1⟩ := zB2 BK182.out))
   refine bodyPost_ret (results_ct rfl _ _ gb182 64 #[.slice none 0 0, .int .i64 0] (0, 0) _ rfl zK131 Try.underlying64 rfl zG101) rfl ?_
   exact ⟨_, zH104, zH65, zH23⟩
/-! ### spec_l01In: function 122 -/
def spec_l01In.f (a0 : Int) (a1 : Int) (a2 : Int) : Option (Bool) := if a0 ≥ a1 then (some (decide (a0 ≤ a2))) else (some false)
set_option maxHeartbeats 64000000 in
set_option maxRecDepth 100000 in
theorem spec_l01In.calls (a0 : Int) (a1 : Int) (a2 : Int) (r : Bool) (w : World) (h : spec_l01In.f a0 a1 a2 = some r) :
  Calls Try.prog 122 #[.int .i64 a0, .int .i64 a1, .int .i64 a2] w fun e w' => e = .returned (.bool r) ∧ Drawn0 w w' := by
 have H : (if a0 ≥ a1 then (some (decide (a0 ≤ a2))) else (some false)) = some r := h
 clear h
 by_cases c4 : a0 ≥ a1
 ·rw [if_pos c4] at H
  have c4b0 : decide (a1 ≤ a0) = true := decide_eq_true c4
  clear c4
  obtain rfl := Option.some.inj H
  go_enter Try.func122, Try.ntmps122
  go_wp2
  go_ret
  exact zH78
 rw [if_neg c4] at H
 have c4b0 : decide (a1 ≤ a0) = false := decide_eq_false c4
 clear c4
 obtain rfl := Option.some.inj H
 go_enter Try.func122, Try.ntmps122
 go_wp2
 go_ret
 exact zH78

end Go.Proofs.Ytojncbpeeboooaa.U
