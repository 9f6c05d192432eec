-- squeezed
-- made by pp.py (wip/tools) out of the translation; Lean checks it
import Derived.Test.YtjibigpdbpipcaaR0
import Derived.Test.YtjibigpdbpipcaaR2
import Derived.Test.YtjibigpdbpipcaaR4
import Derived.Test.YtjibigpdbpipcaaR5
namespace Go.Proofs.Ytjibigpdbpipcaa.R
open Go.RowKit Go.Proofs.YtjibigpdbpipcaaW.PrintWords Go.Proofs.YtjibigpdbpipcaaW.PrintLast Go.Proofs.YtjibigpdbpipcaaW.PrintMore
attribute [local go_sem] max2_int min2_int max_two min_two max_three min_three max_four min_four   -- for this text's walks alone
set_option linter.unusedVariables false
set_option linter.unusedSimpArgs false


/-! ### spec_RosterOf: function 23 -/
mutual
def spec_RosterOf.j0 : Nat → List (S98) → List (S100) → List Int → Bool → Option (List Int × Int × Int × Int)
 | 0, _, _, _, _ => none
 | k + 1, x0, x1, x2, x23 => if x23 = true then (some (([] : List Int), 0, 2, 0)) else ((spec_ShiftsOK.f k x0 x1).bind fun t151 => (if t151 = true then (if (x2.length : Int) = (x0.length : Int) then (spec_RosterOf.l0 k x0 x1 x2 0) else (some (([] : List Int), 0, 3, 0))) else (some (([] : List Int), 0, 1, 0))))
def spec_RosterOf.l0 : Nat → List (S98) → List (S100) → List Int → Int → Option (List Int × Int × Int × Int)
 | 0, _, _, _, _ => none
 | k + 1, x0, x1, x2, x9 => if x9 < (x2.length : Int) then (if 0 ≤ x9 then ((spec_l01In.f (rd x2 x9) 0 (wrap64 ((x1.length : Int) - 1))).bind fun t160 => (if t160 = true then ((spec_l21Code.f k x0 x1 x2 x9).bind fun t161 => (if t161 = 0 then (spec_RosterOf.l0 k x0 x1 x2 (wrap64 (x9 + 1))) else (some (([] : List Int), 0, t161, x9)))) else (some (([] : List Int), 0, 5, x9)))) else (none)) else ((some (([] : List Int) : List Int)).bind fun y152 => (if y152.length + x2.length < 17592186044416 then ((spec_l21Cost.f k x0 x1 x2).bind fun t158 => (some ((y152 ++ x2), t158, 0, 0))) else (none)))
end
def spec_RosterOf.f (k : Nat) (l0 : List (S98)) (l1 : List (S100)) (l2 : List Int) : Option (List Int × Int × Int × Int) := if (l0.length : Int) > 4096 then (spec_RosterOf.j0 k l0 l1 l2 true) else (if (l1.length : Int) > 4096 then (spec_RosterOf.j0 k l0 l1 l2 true) else (spec_RosterOf.j0 k l0 l1 l2 (decide ((l2.length : Int) > 4096))))
theorem spec_RosterOf.mono_l : ∀ k, (∀ y0 y1 y2 y3, LeO (spec_RosterOf.j0 k y0 y1 y2 y3) (spec_RosterOf.j0 (k + 1) y0 y1 y2 y3)) ∧ (∀ y0 y1 y2 y3, LeO (spec_RosterOf.l0 k y0 y1 y2 y3) (spec_RosterOf.l0 (k + 1) y0 y1 y2 y3))
 | 0 => ⟨fun _ _ _ _ r h => by simp [spec_RosterOf.j0] at h, fun _ _ _ _ r h => by simp [spec_RosterOf.l0] at h⟩
 | k + 1 => by
  obtain ⟨ih0, ih1⟩ := spec_RosterOf.mono_l k
  refine ⟨?_, ?_⟩
  ·intro y0 y1 y2 y3
   unfold spec_RosterOf.j0
   repeat' first
   | (with_reducible exact ih0 _ _ _ _)
   | (with_reducible exact ih1 _ _ _ _)
   | (with_reducible exact spec_ShiftsOK.mono _ _ _)
   | (with_reducible exact spec_l21Code.mono _ _ _ _ _)
   | (with_reducible exact spec_l21Cost.mono _ _ _ _)
   | (with_reducible exact LeO.refl _)
   | (with_reducible exact LeO.none _)
   | (with_reducible refine LeO.ite ?_ ?_)
   | (with_reducible refine LeO.bind ?_ (fun _ => ?_))
   | exact ih0 _ _ _ _
   | exact ih1 _ _ _ _
   | exact spec_ShiftsOK.mono _ _ _
   | exact spec_l21Code.mono _ _ _ _ _
   | exact spec_l21Cost.mono _ _ _ _
   | exact LeO.none _
   | refine LeO.ite ?_ ?_
   | refine LeO.bind ?_ (fun _ => ?_)
  ·intro y0 y1 y2 y3
   unfold spec_RosterOf.l0
   repeat' first
   | (with_reducible exact ih0 _ _ _ _)
   | (with_reducible exact ih1 _ _ _ _)
   | (with_reducible exact spec_ShiftsOK.mono _ _ _)
   | (with_reducible exact spec_l21Code.mono _ _ _ _ _)
   | (with_reducible exact spec_l21Cost.mono _ _ _ _)
   | (with_reducible exact LeO.refl _)
   | (with_reducible exact LeO.none _)
   | (with_reducible refine LeO.ite ?_ ?_)
   | (with_reducible refine LeO.bind ?_ (fun _ => ?_))
   | exact ih0 _ _ _ _
   | exact ih1 _ _ _ _
   | exact spec_ShiftsOK.mono _ _ _
   | exact spec_l21Code.mono _ _ _ _ _
   | exact spec_l21Cost.mono _ _ _ _
   | exact LeO.none _
   | refine LeO.ite ?_ ?_
   | refine LeO.bind ?_ (fun _ => ?_)
theorem spec_RosterOf.mono : ∀ a0 a1 a2 k, LeO (spec_RosterOf.f k a0 a1 a2) (spec_RosterOf.f (k + 1) a0 a1 a2) := by
 intro a0 a1 a2 k
 obtain ⟨ih0, ih1⟩ := spec_RosterOf.mono_l k
 unfold spec_RosterOf.f
 repeat' first
   | (with_reducible exact ih0 _ _ _ _)
   | (with_reducible exact ih1 _ _ _ _)
   | (with_reducible exact spec_ShiftsOK.mono _ _ _)
   | (with_reducible exact spec_l21Code.mono _ _ _ _ _)
   | (with_reducible exact spec_l21Cost.mono _ _ _ _)
   | (with_reducible exact LeO.refl _)
   | (with_reducible exact LeO.none _)
   | (with_reducible refine LeO.ite ?_ ?_)
   | (with_reducible refine LeO.bind ?_ (fun _ => ?_))
   | exact ih0 _ _ _ _
   | exact ih1 _ _ _ _
   | exact spec_ShiftsOK.mono _ _ _
   | exact spec_l21Code.mono _ _ _ _ _
   | exact spec_l21Cost.mono _ _ _ _
   | exact LeO.none _
   | refine LeO.ite ?_ ?_
   | refine LeO.bind ?_ (fun _ => ?_)
set_option maxHeartbeats 8000000 in
set_option maxRecDepth 100000 in
theorem spec_RosterOf.calls (k : Nat) (A0 : Option Addr) (c0 : Nat) (l0 : List (S98)) (A1 : Option Addr) (c1 : Nat) (l1 : List (S100)) (A2 : Option Addr) (c2 : Nat) (l2 : List Int) (r1 : List Int) (r2 : Int) (r3 : Int) (r4 : Int) (w : World) (hr0 : Kd.C k98 w A0 l0.length l0) (hc0 : l0.length ≤ c0) (hr1 : Kd.C k100 w A1 l1.length l1) (hc1 : l1.length ≤ c1) (hr2 : Kd.C (Kd.int .i64) w A2 l2.length l2) (hc2 : l2.length ≤ c2) (h : spec_RosterOf.f k l0 l1 l2 = some (r1, r2, r3, r4)) :
  Calls Try.prog 23 #[.slice A0 l0.length c0, .slice A1 l1.length c1, .slice A2 l2.length c2] w fun e w' => ∃ v0_ : Value, e = .returned (.tuple #[.agg #[v0_, .int .i64 r2], .int .i64 r3, .int .i64 r4]) ∧ Kd.R (Kd.int .i64) 3 w' w.heap.size (fun _ => True) v0_ r1 ∧ Below w.heap.size w w' := by
 have hu50 := Try.underlying50
 have HR0 := zb hr0
 have HC0 := zb hc0
 clear hr0 hc0
 have HR1 := zb hr1
 have HC1 := zb hc1
 clear hr1 hc1
 have HR2 := zb hr2
 have HC2 := zb hc2
 clear hr2 hc2
 have HB := zb (Below.refl w.heap.size w)
 have H : (if (l0.length : Int) > 4096 then (spec_RosterOf.j0 k l0 l1 l2 true) else (if (l1.length : Int) > 4096 then (spec_RosterOf.j0 k l0 l1 l2 true) else (spec_RosterOf.j0 k l0 l1 l2 (decide ((l2.length : Int) > 4096))))) = some (r1, r2, r3, r4) := h
 clear h
 have HC4 := zb H
 clear H
 go_enter Try.func23, Try.ntmps23
 go_upto_region 1 with (first | ((with_reducible refine gate_dst (N := 6) rfl ?_); (try (refine gate_guard (by rfl) ?_; dsimp only)); refine box_event ?hg (N := 6) ?hd (cs := #[.slice none 0 0, .int .i64 0]) (t := 50) ?hr ?_; (case hd => rfl); (case hg => rfl); (case hr => exact zH100); intro gb150 hg w5 hbox hb; have n_ := zA_ (zb (zq zG76 hb)) (zA_ (zb (hbox)) (zA_ (zb ((by rw [hg]; exact (zo zG76) : w.heap.size ≤ gb150))) (zb ((by rw [hg]; exact (zo zG76) : w.heap.size ≤ gb150))))); clear HB; obtain ⟨HB, BK150, GW150, GE150⟩ := n_; clear hb hbox hg))
 (try simp only [Act.put, List.setIfInBounds_toArray, List.set_cons_zero, List.set_cons_succ])
 go_cut [23] (fun v23 wc => ∃ (kq : Nat) (x23_3 : Bool), v23 = .bool x23_3 ∧ Aside0 (spec_RosterOf.j0 kq l0 l1 l2 x23_3 = some (r1, r2, r3, r4)) ∧ Aside0 (kq ≤ k) ∧ Aside0 (wc.heap[gb150]? = some (.cells #[(.slice none 0 0), .int .i64 0] 50 (0, 0))) ∧ Aside0 (Below w.heap.size w wc))
 case first =>
  have H := HC4.out
  clear HC4
  by_cases c6 : (l0.length : Int) > 4096
  ·rw [if_pos c6] at H
   have c6b0 : decide (4096 < (l0.length : Int)) = true := decide_eq_true c6
   have c6b1 : decide (4096 < l0.length) = true := decide_eq_true (by omega)
   clear c6
   (first | rw [c6b0] | (simp only [i64_w, i32_w]; rw [c6b0]) | skip)
   have H' := zb H
   clear H
   go_wp2
   go_meet
   case rel => exact ⟨_, (true), zG95, H', ⟨zH101⟩, ⟨zH85⟩, ⟨zH58⟩⟩
  rw [if_neg c6] at H
  have c6b0 : decide (4096 < (l0.length : Int)) = false := decide_eq_false c6
  have c6b1 : decide (4096 < l0.length) = false := decide_eq_false (by omega)
  clear c6
  (first | rw [c6b0] | (simp only [i64_w, i32_w]; rw [c6b0]) | skip)
  by_cases c7 : (l1.length : Int) > 4096
  rotate_left
  ·rw [if_neg c7] at H
   have c7b0 : decide (4096 < (l1.length : Int)) = false := decide_eq_false c7
   have c7b1 : decide (4096 < l1.length) = false := decide_eq_false (by omega)
   clear c7
   have H' := zb H
   clear H
   go_wp2
   go_meet
   case rel => exact ⟨_, (decide ((l2.length : Int) > 4096)), zG95, H', ⟨zH101⟩, ⟨zH85⟩, ⟨zH58⟩⟩
  rw [if_pos c7] at H
  have c7b0 : decide (4096 < (l1.length : Int)) = true := decide_eq_true c7
  have c7b1 : decide (4096 < l1.length) = true := decide_eq_true (by omega)
  clear c7
  have H' := zb H
  clear H
  go_wp2
  go_meet
  case rel => exact ⟨_, (true), zG95, H', ⟨zH101⟩, ⟨zH85⟩, ⟨zH58⟩⟩
 case rest =>
  clear HC4
  try clear c1
  try clear c2
  try clear p2
  try clear c6
  try clear c6b0
  try clear c6b1
  try clear c7
  try clear c7b0
  try clear c7b1
  obtain ⟨kq, x23_3, rfl, HA, HJ3, BK150, HB⟩ := hcut
  cases kq with
  | zero => exact absurd HA.out (by simp [spec_RosterOf.j0])
  | succ kj3 =>
   have H := HA.out
   clear HA
   simp only [spec_RosterOf.j0] at H
   by_cases c8 : x23_3 = true
   ·subst c8
    have H1 : (some (([] : List Int), 0, 2, 0)) = some (r1, r2, r3, r4) := by rw [if_pos rfl] at H; exact H
    clear H
    have H := H1
    clear H1
    simp only [Option.some.injEq, Prod.mk.injEq] at H
    obtain ⟨rfl, rfl, rfl, rfl⟩ := H
    have hcz9_0 : wc.cell? ⟨gb150, 0, none⟩ = some (.slice none 0 0) := (zg BK150.out 0).trans rfl
    have hcz9_1 : wc.cell? ⟨gb150, 1, none⟩ = some (.int .i64 0) := (zg BK150.out 1).trans rfl
    have hfz9_0 := zf BK150.out 0
    have hfz9_1 := zf BK150.out 1
    go_wp2
    refine bodyPost_ret (results_ctt rfl _ _ gb150 50 #[.slice none 0 0, .int .i64 0] (0, 0) _ rfl zK112 Try.underlying50 rfl zG96) rfl ?_
    exact zH8
   replace c8 := Bool.eq_false_iff.mpr c8
   subst c8
   have H1 : ((spec_ShiftsOK.f kj3 l0 l1).bind fun t151 => (if t151 = true then (if (l2.length : Int) = (l0.length : Int) then (spec_RosterOf.l0 kj3 l0 l1 l2 0) else (some (([] : List Int), 0, 3, 0))) else (some (([] : List Int), 0, 1, 0)))) = some (r1, r2, r3, r4) := by rw [if_neg (show ¬ (false = true) by decide)] at H; exact H
   clear H
   have H := H1
   clear H1
   replace H := Option.bind_eq_some_iff.mp H
   obtain ⟨t151, A100, H⟩ := H
   replace H : (if t151 = true then (if (l2.length : Int) = (l0.length : Int) then (spec_RosterOf.l0 kj3 l0 l1 l2 0) else (some (([] : List Int), 0, 3, 0))) else (some (([] : List Int), 0, 1, 0))) = some (r1, r2, r3, r4) := H
   have A10 := zb A100
   clear A100
   by_cases c11 : t151 = true
   rotate_left
   ·replace c11 := Bool.eq_false_iff.mpr c11
    subst c11
    have H1 : (some (([] : List Int), 0, 1, 0)) = some (r1, r2, r3, r4) := by rw [if_neg (show ¬ (false = true) by decide)] at H; exact H
    clear H
    have H := H1
    clear H1
    simp only [Option.some.injEq, Prod.mk.injEq] at H
    obtain ⟨rfl, rfl, rfl, rfl⟩ := H
    go_wp2_with (first | ((with_reducible refine gate_callee (f := 53) rfl ?_); refine goesL_ (some 27) rfl rfl Try.func53 zG96 rfl #[.slice A0 l0.length c0, .slice A1 l1.length c1] rfl zG65 ?_; (with_reducible refine (spec_ShiftsOK.calls kj3 _ _ l0 _ _ l1 false _ ?side1 ?side2 ?side3 ?side4 A10.out).mono ?_); (case side1 => exact zH50); (case side2 => exact HC0.out); (case side3 => exact zH49); (case side4 => exact HC1.out); rintro e w36 ⟨rfl, hb⟩; refine ⟨_, rfl, ?_⟩; have n_ := zA_ (zb (zu (g := gb150) (o := .cells #[.slice none 0 0, .int .i64 0] 50 (0, 0)) zK175 hb)) (zb (zq zG68 hb)); clear BK150 HB; obtain ⟨BK150, HB⟩ := n_; (try clear hb); have hcz37_0 : w36.cell? ⟨gb150, 0, none⟩ = some (.slice none 0 0) := (zg BK150.out 0).trans rfl; have hcz37_1 : w36.cell? ⟨gb150, 1, none⟩ = some (.int .i64 0) := (zg BK150.out 1).trans rfl; have hfz37_0 := zf BK150.out 0; have hfz37_1 := zf BK150.out 1))
    refine bodyPost_ret (results_ctt rfl _ _ gb150 50 #[.slice none 0 0, .int .i64 0] (0, 0) _ rfl zK112 Try.underlying50 rfl zG96) rfl ?_
    exact zH8

   subst c11
   have H1 : (if (l2.length : Int) = (l0.length : Int) then (spec_RosterOf.l0 kj3 l0 l1 l2 0) else (some (([] : List Int), 0, 3, 0))) = some (r1, r2, r3, r4) := by rw [if_pos rfl] at H; exact H
   clear H
   have H := H1
   clear H1
   by_cases c12 : (l2.length : Int) = (l0.length : Int)
   rotate_left
   ·rw [if_neg c12] at H
    have c12b0 : ((l2.length : Int) == (l0.length : Int)) = false := beq_eq_false_iff_ne.mpr c12
    have c12b1 : ((l2.length : Int) != (l0.length : Int)) = true := bne_iff_ne.mpr c12
    have c12b2 : (l2.length == l0.length) = false := by first | simpa using c12 | (simp at c12 ⊢; omega)
    simp only [Option.some.injEq, Prod.mk.injEq] at H
    obtain ⟨rfl, rfl, rfl, rfl⟩ := H
    go_wp2_with (first | ((with_reducible refine gate_callee (f := 53) rfl ?_); refine goesL_ (some 27) rfl rfl Try.func53 zG96 rfl #[.slice A0 l0.length c0, .slice A1 l1.length c1] rfl zG65 ?_; (with_reducible refine (spec_ShiftsOK.calls kj3 _ _ l0 _ _ l1 true _ ?side1 ?side2 ?side3 ?side4 A10.out).mono ?_); (case side1 => exact zH50); (case side2 => exact HC0.out); (case side3 => exact zH49); (case side4 => exact HC1.out); rintro e w34 ⟨rfl, hb⟩; refine ⟨_, rfl, ?_⟩; have n_ := zA_ (zb (zu (g := gb150) (o := .cells #[.slice none 0 0, .int .i64 0] 50 (0, 0)) zK175 hb)) (zb (zq zG68 hb)); clear BK150 HB; obtain ⟨BK150, HB⟩ := n_; (try clear hb); have hcz35_0 : w34.cell? ⟨gb150, 0, none⟩ = some (.slice none 0 0) := (zg BK150.out 0).trans rfl; have hcz35_1 : w34.cell? ⟨gb150, 1, none⟩ = some (.int .i64 0) := (zg BK150.out 1).trans rfl; have hfz35_0 := zf BK150.out 0; have hfz35_1 := zf BK150.out 1))
    refine bodyPost_ret (results_ctt rfl _ _ gb150 50 #[.slice none 0 0, .int .i64 0] (0, 0) _ rfl zK112 Try.underlying50 rfl zG96) rfl ?_
    exact zH8
   rw [if_pos c12] at H
   have c12b0 : ((l2.length : Int) == (l0.length : Int)) = true := beq_iff_eq.mpr c12
   have c12b1 : ((l2.length : Int) != (l0.length : Int)) = false := bne_eq_false_iff_eq.mpr c12
   have c12b2 : (l2.length == l0.length) = true := by first | simpa using c12 | (simp at c12 ⊢; omega)
   clear c12
   have H' := zb H
   clear H
   go_wp2_with (first | ((with_reducible refine gate_callee (f := 53) rfl ?_); refine goesL_ (some 27) rfl rfl Try.func53 zG96 rfl #[.slice A0 l0.length c0, .slice A1 l1.length c1] rfl zG65 ?_; (with_reducible refine (spec_ShiftsOK.calls kj3 _ _ l0 _ _ l1 true _ ?side1 ?side2 ?side3 ?side4 A10.out).mono ?_); (case side1 => exact zH50); (case side2 => exact HC0.out); (case side3 => exact zH49); (case side4 => exact HC1.out); rintro e w13 ⟨rfl, hb⟩; refine ⟨_, rfl, ?_⟩; have n_ := zA_ (zb (zu (g := gb150) (o := .cells #[.slice none 0 0, .int .i64 0] 50 (0, 0)) zK175 hb)) (zb (zq zG68 hb)); clear BK150 HB; obtain ⟨BK150, HB⟩ := n_; (try clear hb)))
   go_loopg [9] kj3 (fun kq v9 w' => ∃ (x9_2 : Int) (x151001_2 : Int), v9 = .int .i64 x9_2 ∧ Aside0 (spec_RosterOf.l0 kq l0 l1 l2 x9_2 = some (r1, r2, r3, r4)) ∧ Aside0 (kq ≤ kj3) ∧ Aside0 (w'.heap[gb150]? = some (.cells #[(.slice none 0 0), .int .i64 x151001_2] 50 (0, 0))) ∧ Aside0 (Below w.heap.size w w'))
   case atStart => exact ⟨(0), (0), zG95, H', ⟨Nat.le_refl _⟩, ⟨zH85⟩, ⟨zH58⟩⟩
   case round =>
    clear H'
    try clear c1
    try clear c2
    try clear p2
    try clear c5
    try clear c6
    try clear c6b0
    try clear c6b1
    try clear c7
    try clear c7b0
    try clear c7b1
    try clear c8
    try clear c11
    try clear c12
    try clear c12b0
    try clear c12b1
    try clear c12b2
    try clear hcz9_0
    try clear hcz9_1
    try clear hfz9_0
    try clear hfz9_1
    try clear p2
    obtain ⟨x9_2, x151001_2, rfl, HA, HK2, BK150, HB⟩ := hrel
    cases gk with
    | zero => exact absurd HA.out (by simp [spec_RosterOf.l0])
    | succ k2 =>
     have H := HA.out
     clear HA
     simp only [spec_RosterOf.l0] at H
     by_cases c14 : x9_2 < (l2.length : Int)
     rotate_left
     ·rw [if_neg c14] at H
      have c14b0 := decide_eq_false c14
      clear c14
      obtain ⟨y152, hy152⟩ : ∃ y_ : List Int, y_ = (([] : List Int)) := ⟨_, rfl⟩
      replace H : (if y152.length + l2.length < 17592186044416 then ((spec_l21Cost.f k2 l0 l1 l2).bind fun t158 => (some ((y152 ++ l2), t158, 0, 0))) else (none)) = some (r1, r2, r3, r4) := by first | (rw [hy152]; with_reducible exact H) | (have H2_ := (Option.bind_some _ _).symm.trans H; rw [hy152]; with_reducible exact H2_) | (have H2_ := (Option.bind_some _ _).symm.trans H; with_reducible exact H2_) | with_reducible exact H | (rw [hy152]; exact H) | exact H
      have Ny152 := zb hy152
      clear hy152
      by_cases c26 : y152.length + l2.length < 17592186044416
      rotate_left
      ·rw [if_neg c26] at H
       exact absurd H (by simp)
      rw [if_pos c26] at H
      have LMc26 := zb c26
      clear c26
      obtain ⟨y155, hy155⟩ : ∃ y_ : List Int, y_ = (y152 ++ l2) := ⟨_, rfl⟩
      replace H : ((spec_l21Cost.f k2 l0 l1 l2).bind fun t158 => (some (y155, t158, 0, 0))) = some (r1, r2, r3, r4) := by first | (rw [hy155]; with_reducible exact H) | (have H2_ := (Option.bind_some _ _).symm.trans H; rw [hy155]; with_reducible exact H2_) | (have H2_ := (Option.bind_some _ _).symm.trans H; with_reducible exact H2_) | with_reducible exact H | (rw [hy155]; exact H) | exact H
      have Ny155 := zb hy155
      clear hy155
      replace H := Option.bind_eq_some_iff.mp H
      obtain ⟨t158, A270, H⟩ := H
      replace H : (some (y155, t158, 0, 0)) = some (r1, r2, r3, r4) := H
      have A27 := zb A270
      clear A270
      simp only [Option.some.injEq, Prod.mk.injEq] at H
      obtain ⟨rfl, rfl, rfl, rfl⟩ := H
      go_wp2_with (first | ((with_reducible refine gate_dst (N := 63) rfl ?_); (try (refine gate_guard (by rfl) ?_; dsimp only)); refine Kd.R_lit (Kd.int .i64) _ 3 ?hg (N := 63) ?hd (xs := ([] : List Int)) (inner := []) (ok := fun _ => True) (okp := fun _ => True) ?hr ?hp (fun _ hk => hk) trivial (Below.refl _ _) (Nat.le_refl _) (by simp) ?_; (case hd => rfl); (case hg => rfl); (case hr => exact zH100); (case hp => exact (Reps.none _ _)); intro v153 w28 ho29 hb hg_ hnew_; clear hg_ hnew_; (first | rw [← Ny152.out] at ho29 | (simp only [Int.reduceToNat] at ho29; rw [← Ny152.out] at ho29)); have n_ := zA_ (zb (zag ho29 (zo zG68))) (zA_ (zb (zu (g := gb150) (o := .cells #[.slice none 0 0, .int .i64 x151001_2] 50 (0, 0)) zK175 hb)) (zb (zq zG68 hb))); clear BK150 HB; obtain ⟨HO154, BK150, HB⟩ := n_; clear hb ho29) | ((with_reducible refine gate_builtin (b := .append) (xs := #[.tmp 63, .tmp 64]) rfl ?_); (try (refine gate_guard (by rfl) ?_; dsimp only)); at_builtin; refine Kd.R_append_rows (Kd.int .i64) (w0 := w) w.heap.size rfl (.tmp 63) (.tmp 64) 24 3 (.int .i64 0) 8 rfl Try.underlying24 info3 rfl (by decide) (by omega) v153 y152 l2 _ _ _ (fun _ => True) (fun _ => False) rfl rfl ?aO ?aR (fun _ _ h => h) (fun _ h => h.elim) ?aF ?aB ?aS ?aL ?_; (case aR => exact zH48); (case aB => exact zG68); (case aF => exact (fun _ _ => trivial)); (case aO => exact (by (with_reducible repeat (first | apply zl | apply zm | apply zn)); exact HO154.out)); (case aS => exact (zo zG68)); (case aL => have := LMc26.out; omega); intro v156 w30 ho hb hg hat; rw [← Ny155.out] at ho; have n_ := zA_ (zb (blk_grown (g := gb150) (o := .cells #[.slice none 0 0, .int .i64 x151001_2] 50 (0, 0)) zK175 hg (zay HO154.out BK150.out (by decide)))) (zA_ (zb (hb)) (zb (ho))); clear BK150 HB HO154; obtain ⟨BK150, HB, HO157⟩ := n_; clear ho hb hg hat) | ((with_reducible refine gate_callee (f := 55) rfl ?_); refine goesL_ (some 69) rfl rfl Try.func55 zG96 rfl #[.slice A0 l0.length c0, .slice A1 l1.length c1, .slice A2 l2.length c2] rfl zG65 ?_; (with_reducible refine (spec_l21Cost.calls k2 _ _ l0 _ _ l1 _ _ l2 t158 _ ?side1 ?side2 ?side3 ?side4 ?side5 ?side6 A27.out).mono ?_); (case side1 => exact zH50); (case side2 => exact HC0.out); (case side3 => exact zH49); (case side4 => exact HC1.out); (case side5 => exact zH48); (case side6 => exact HC2.out); rintro e w' ⟨rfl, ⟨nd, rfl⟩⟩; refine ⟨_, rfl, ?_⟩; (try (rw [drewN_self w30]; generalize hq_ : World.drewN w30 _ = w30; have n0_ : Aside0 (Kd.R (Kd.int .i64) 3 w30 w.heap.size (fun _ => True) v156 y155) := ⟨by rw [← hq_]; exact (by (with_reducible repeat (first | apply zl | apply zm | apply zn)); exact HO157.out)⟩; have n1_ : Aside0 (w30.heap[gb150]? = some (.cells #[.slice none 0 0, .int .i64 x151001_2] 50 (0, 0))) := ⟨zH63⟩; have n2_ : Aside0 (Below w.heap.size w w30) := ⟨by rw [← hq_]; exact zG68⟩; clear HO157 BK150 HB hq_; have HO157 := n0_; have BK150 := n1_; have HB := n2_; clear n0_ n1_ n2_)); (try have hcu31_0 : w30.cell? ⟨gb150, 0, none⟩ = some (.slice none 0 0) := (zg BK150.out 0).trans rfl); (try have hcu31_1 : w30.cell? ⟨gb150, 1, none⟩ = some (.int .i64 x151001_2) := (zg BK150.out 1).trans rfl); (try have hfcu31_0 := zf BK150.out 0); (try have hfcu31_1 := zf BK150.out 1); obtain ⟨Ao32, co32, eo32⟩ := zah HO157.out; subst eo32; have hcz33_0 : w30.cell? ⟨gb150, 0, none⟩ = some (.slice none 0 0) := (zg BK150.out 0).trans rfl; have hcz33_1 : w30.cell? ⟨gb150, 1, none⟩ = some (.int .i64 x151001_2) := (zg BK150.out 1).trans rfl; have hfz33_0 := zf BK150.out 0; have hfz33_1 := zf BK150.out 1))
      refine bodyPost_ret (results_ctt rfl _ _ gb150 50 #[.slice Ao32 y155.length co32, .int .i64 t158] (0, 0) _ rfl (by (with_reducible repeat (first | refine zi ?_ _ | refine zk ?_ | refine zj ?_ _)); refine zy (cs := #[.slice Ao32 y155.length co32, .int .i64 x151001_2]) ?_ 1 _ rfl; (with_reducible repeat (first | refine zi ?_ _ | refine zk ?_ | refine zj ?_ _)); refine zy (cs := #[.slice none 0 0, .int .i64 x151001_2]) ?_ 0 _ rfl; (with_reducible repeat (first | refine zi ?_ _ | refine zk ?_ | refine zj ?_ _)); exact BK150.out) Try.underlying50 rfl zG96) rfl ?_
      exact ⟨_, zH89, by (with_reducible repeat (first | apply zl | apply zm | apply zn)); exact zx (zv (p := ⟨gb150, 1, none⟩) (zv (p := ⟨gb150, 0, none⟩) (zab HO157.out BK150.out (by decide)) (fun _ hk => hk.2) (.slice Ao32 y155.length co32)) (fun _ hk => hk.2) (.int .i64 t158)) (fun _ hk => trivial), zH58⟩
     rw [if_pos c14] at H
     have c14b0 := decide_eq_true c14
     clear c14
     by_cases c15 : 0 ≤ x9_2
     rotate_left
     ·rw [if_neg c15] at H
      exact absurd H (by simp)
     rw [if_pos c15] at H
     have c15b0 := decide_eq_true c15
     clear c15
     replace H := Option.bind_eq_some_iff.mp H
     obtain ⟨t160, A160, H⟩ := H
     replace H : (if t160 = true then ((spec_l21Code.f k2 l0 l1 l2 x9_2).bind fun t161 => (if t161 = 0 then (spec_RosterOf.l0 k2 l0 l1 l2 (wrap64 (x9_2 + 1))) else (some (([] : List Int), 0, t161, x9_2)))) else (some (([] : List Int), 0, 5, x9_2))) = some (r1, r2, r3, r4) := H
     have A16 := zb A160
     clear A160
     by_cases c17 : t160 = true
     rotate_left
     ·replace c17 := Bool.eq_false_iff.mpr c17
      subst c17
      have H1 : (some (([] : List Int), 0, 5, x9_2)) = some (r1, r2, r3, r4) := by rw [if_neg (show ¬ (false = true) by decide)] at H; exact H
      clear H
      have H := H1
      clear H1
      simp only [Option.some.injEq, Prod.mk.injEq] at H
      obtain ⟨rfl, rfl, rfl, rfl⟩ := H
      have p159 : 0 ≤ (x9_2 : Int) := zO
      have q159 : x9_2 < (l2.length : Int) := zO
      obtain ⟨ad159, e159, hx159_0⟩ := zaj HR2.out x9_2 p159 q159
      cases e159
      replace hx159_0 := (HB.out.cell (za w _ hx159_0)).trans hx159_0
      replace p159 := eq_true p159
      replace q159 := eq_true q159
      go_wp2_with (first | ((with_reducible refine gate_callee (f := 37) rfl ?_); refine goesL_ (some 49) rfl rfl Try.func37 zG96 rfl #[.int .i64 (rd l2 x9_2), .int .i64 0, .int .i64 (wrap64 ((l1.length : Int) - 1))] rfl zG65 ?_; (with_reducible refine (spec_l01In.calls (rd l2 x9_2) 0 (wrap64 ((l1.length : Int) - 1)) false _ A16.out).mono ?_); rintro e w' ⟨rfl, ⟨nd, rfl⟩⟩; refine ⟨_, rfl, ?_⟩; (try (rw [drewN_self wr]; generalize hq_ : World.drewN wr _ = wr; have n0_ : Aside0 (wr.heap[gb150]? = some (.cells #[.slice none 0 0, .int .i64 x151001_2] 50 (0, 0))) := ⟨zH63⟩; have n1_ : Aside0 (Below w.heap.size w wr) := ⟨by rw [← hq_]; exact zG68⟩; clear BK150 HB hq_; have BK150 := n0_; have HB := n1_; clear n0_ n1_)); (try have hcu24_0 : wr.cell? ⟨gb150, 0, none⟩ = some (.slice none 0 0) := (zg BK150.out 0).trans rfl); (try have hcu24_1 : wr.cell? ⟨gb150, 1, none⟩ = some (.int .i64 x151001_2) := (zg BK150.out 1).trans rfl); (try have hfcu24_0 := zf BK150.out 0); (try have hfcu24_1 := zf BK150.out 1); have hcz25_0 : wr.cell? ⟨gb150, 0, none⟩ = some (.slice none 0 0) := (zg BK150.out 0).trans rfl; have hcz25_1 : wr.cell? ⟨gb150, 1, none⟩ = some (.int .i64 x151001_2) := (zg BK150.out 1).trans rfl; have hfz25_0 := zf BK150.out 0; have hfz25_1 := zf BK150.out 1))
      refine bodyPost_ret (results_ctt rfl _ _ gb150 50 #[.slice none 0 0, .int .i64 0] (0, 0) _ rfl zK108 Try.underlying50 rfl zG96) rfl ?_
      exact zH8
     subst c17
     have H1 : ((spec_l21Code.f k2 l0 l1 l2 x9_2).bind fun t161 => (if t161 = 0 then (spec_RosterOf.l0 k2 l0 l1 l2 (wrap64 (x9_2 + 1))) else (some (([] : List Int), 0, t161, x9_2)))) = some (r1, r2, r3, r4) := by rw [if_pos rfl] at H; exact H
     clear H
     have H := H1
     clear H1
     replace H := Option.bind_eq_some_iff.mp H
     obtain ⟨t161, A180, H⟩ := H
     replace H : (if t161 = 0 then (spec_RosterOf.l0 k2 l0 l1 l2 (wrap64 (x9_2 + 1))) else (some (([] : List Int), 0, t161, x9_2))) = some (r1, r2, r3, r4) := H
     have A18 := zb A180
     clear A180
     by_cases c19 : t161 = 0
     rotate_left
     ·rw [if_neg c19] at H
      have c19b0 : (t161 == 0) = false := beq_eq_false_iff_ne.mpr c19
      have c19b1 : (t161 != 0) = true := bne_iff_ne.mpr c19
      simp only [Option.some.injEq, Prod.mk.injEq] at H
      obtain ⟨rfl, rfl, rfl, rfl⟩ := H
      have p159 : 0 ≤ (x9_2 : Int) := zO
      have q159 : x9_2 < (l2.length : Int) := zO
      obtain ⟨ad159, e159, hx159_0⟩ := zaj HR2.out x9_2 p159 q159
      cases e159
      replace hx159_0 := (HB.out.cell (za w _ hx159_0)).trans hx159_0
      replace p159 := eq_true p159
      replace q159 := eq_true q159
      go_wp2_with (first | ((with_reducible refine gate_callee (f := 37) rfl ?_); refine goesL_ (some 49) rfl rfl Try.func37 zG96 rfl #[.int .i64 (rd l2 x9_2), .int .i64 0, .int .i64 (wrap64 ((l1.length : Int) - 1))] rfl zG65 ?_; (with_reducible refine (spec_l01In.calls (rd l2 x9_2) 0 (wrap64 ((l1.length : Int) - 1)) true _ A16.out).mono ?_); rintro e w' ⟨rfl, ⟨nd, rfl⟩⟩; refine ⟨_, rfl, ?_⟩; (try (rw [drewN_self wr]; generalize hq_ : World.drewN wr _ = wr; have n0_ : Aside0 (wr.heap[gb150]? = some (.cells #[.slice none 0 0, .int .i64 x151001_2] 50 (0, 0))) := ⟨zH63⟩; have n1_ : Aside0 (Below w.heap.size w wr) := ⟨by rw [← hq_]; exact zG68⟩; clear BK150 HB hq_; have BK150 := n0_; have HB := n1_; clear n0_ n1_)); (try have hcu21_0 : wr.cell? ⟨gb150, 0, none⟩ = some (.slice none 0 0) := (zg BK150.out 0).trans rfl); (try have hcu21_1 : wr.cell? ⟨gb150, 1, none⟩ = some (.int .i64 x151001_2) := (zg BK150.out 1).trans rfl); (try have hfcu21_0 := zf BK150.out 0); (try have hfcu21_1 := zf BK150.out 1)) | ((with_reducible refine gate_callee (f := 54) rfl ?_); refine goesL_ (some 57) rfl rfl Try.func54 zG96 rfl #[.slice A0 l0.length c0, .slice A1 l1.length c1, .slice (some ad159) l2.length c2, .int .i64 x9_2] rfl zG65 ?_; (with_reducible refine (spec_l21Code.calls k2 _ _ l0 _ _ l1 _ _ l2 x9_2 t161 _ ?side1 ?side2 ?side3 ?side4 ?side5 ?side6 A18.out).mono ?_); (case side1 => exact zH50); (case side2 => exact HC0.out); (case side3 => exact zH49); (case side4 => exact HC1.out); (case side5 => exact zH48); (case side6 => exact HC2.out); rintro e w22 ⟨rfl, hb⟩; refine ⟨_, rfl, ?_⟩; have n_ := zA_ (zb (zu (g := gb150) (o := .cells #[.slice none 0 0, .int .i64 x151001_2] 50 (0, 0)) zK175 hb)) (zb (zq zG68 hb)); clear BK150 HB; obtain ⟨BK150, HB⟩ := n_; (try clear hb); have hcz23_0 : w22.cell? ⟨gb150, 0, none⟩ = some (.slice none 0 0) := (zg BK150.out 0).trans rfl; have hcz23_1 : w22.cell? ⟨gb150, 1, none⟩ = some (.int .i64 x151001_2) := (zg BK150.out 1).trans rfl; have hfz23_0 := zf BK150.out 0; have hfz23_1 := zf BK150.out 1))
      refine bodyPost_ret (results_ctt rfl _ _ gb150 50 #[.slice none 0 0, .int .i64 0] (0, 0) _ rfl zK108 Try.underlying50 rfl zG96) rfl ?_
      exact zH8
     rw [if_pos c19] at H
     have c19b0 : (t161 == 0) = true := beq_iff_eq.mpr c19
     have c19b1 : (t161 != 0) = false := bne_eq_false_iff_eq.mpr c19
     clear c19
     have H' := zb H
     clear H
     have p159 : 0 ≤ (x9_2 : Int) := zO
     have q159 : x9_2 < (l2.length : Int) := zO
     obtain ⟨ad159, e159, hx159_0⟩ := zaj HR2.out x9_2 p159 q159
     cases e159
     replace hx159_0 := (HB.out.cell (za w _ hx159_0)).trans hx159_0
     replace p159 := eq_true p159
     replace q159 := eq_true q159
     go_wp2_with (first | ((with_reducible refine gate_callee (f := 37) rfl ?_); refine goesL_ (some 49) rfl rfl Try.func37 zG96 rfl #[.int .i64 (rd l2 x9_2), .int .i64 0, .int .i64 (wrap64 ((l1.length : Int) - 1))] rfl zG65 ?_; (with_reducible refine (spec_l01In.calls (rd l2 x9_2) 0 (wrap64 ((l1.length : Int) - 1)) true _ A16.out).mono ?_); rintro e w' ⟨rfl, ⟨nd, rfl⟩⟩; refine ⟨_, rfl, ?_⟩) | ((with_reducible refine gate_callee (f := 54) rfl ?_); refine goesL_ (some 57) rfl rfl Try.func54 zG96 rfl #[.slice A0 l0.length c0, .slice A1 l1.length c1, .slice (some ad159) l2.length c2, .int .i64 x9_2] rfl zG65 ?_; (with_reducible refine (spec_l21Code.calls k2 _ _ l0 _ _ l1 _ _ l2 x9_2 t161 _ ?side1 ?side2 ?side3 ?side4 ?side5 ?side6 A18.out).mono ?_); (case side1 => repeat (first | exact (zw HR0.out zG68) | (with_reducible refine zr ?_ _) | (with_reducible refine zs ?_ _) | (with_reducible refine zt ?_))); (case side2 => exact HC0.out); (case side3 => repeat (first | exact (zw HR1.out zG68) | (with_reducible refine zr ?_ _) | (with_reducible refine zs ?_ _) | (with_reducible refine zt ?_))); (case side4 => exact HC1.out); (case side5 => repeat (first | exact (zw HR2.out zG68) | (with_reducible refine zr ?_ _) | (with_reducible refine zs ?_ _) | (with_reducible refine zt ?_))); (case side6 => exact HC2.out); rintro e w20 ⟨rfl, hb⟩; refine ⟨_, rfl, ?_⟩; have n_ := zA_ (zb (zu (g := gb150) (o := .cells #[.slice none 0 0, .int .i64 x151001_2] 50 (0, 0)) zK175 hb)) (zb (zq zG68 hb)); clear BK150 HB; obtain ⟨BK150, HB⟩ := n_; (try clear hb)))
     go_roundg k2
     case measure => have := HJ3.out; have := HK2.out; omega
     case rel => exact ⟨(wrap64 (x9_2 + 1)), (x151001_2), zG95, H', ⟨by have := HJ3.out; have := HK2.out; omega⟩, ⟨zH85⟩, ⟨zH58⟩⟩
/-! ### laws_toShift: function 56 -/
def laws_toShift.f (a0_0 : Int) (a0_1 : Int) (a0_2 : ByteArray) : Option (Int × Int × ByteArray) := some (a0_0, a0_1, a0_2)
set_option maxHeartbeats 8000000 in
set_option maxRecDepth 100000 in
theorem laws_toShift.calls (a0_0 : Int) (a0_1 : Int) (a0_2 : ByteArray) (r1 : Int) (r2 : Int) (r3 : ByteArray) (w : World) (h : laws_toShift.f a0_0 a0_1 a0_2 = some (r1, r2, r3)) :
  Calls Try.prog 56 #[.agg #[.int .i64 a0_0, .int .i64 a0_1, .string a0_2]] w fun e w' => e = .returned (.agg #[.int .i64 r1, .int .i64 r2, .string r3]) ∧ Below w.heap.size w w' := by
 have hu90 := Try.underlying90
 have hu98 := Try.underlying98
 have HB := zb (Below.refl w.heap.size w)
 have H : (some (a0_0, a0_1, a0_2)) = some (r1, r2, r3) := h
 clear h
 simp only [Option.some.injEq, Prod.mk.injEq] at H
 obtain ⟨rfl, rfl, rfl⟩ := H
 go_enter Try.func56, Try.ntmps56
 go_wp2_with (first | ((with_reducible refine gate_dst (N := 1) rfl ?_); refine box_event ?hg (N := 1) ?hd (cs := #[.int .i64 a0_0, .int .i64 a0_1, .string a0_2]) (t := 90) ?hr ?_; (case hd => rfl); (case hg => rfl); (case hr => exact zH100); intro gb162 hg w2 hbox hb; have n_ := zA_ (zb (zq zG76 hb)) (zA_ (zb (hbox)) (zA_ (zb ((by rw [hg]; exact (zo zG76) : w.heap.size ≤ gb162))) (zb ((by rw [hg]; exact (zo zG76) : w.heap.size ≤ gb162))))); clear HB; obtain ⟨HB, BK162, GW162, GE162⟩ := n_; clear hb hbox hg) | ((with_reducible refine gate_dst (N := 2) rfl ?_); refine box_event ?hg (N := 2) ?hd (cs := #[.int .i64 0, .int .i64 0, .string (⟨#[]⟩ : ByteArray)]) (t := 98) ?hr ?_; (case hd => rfl); (case hg => rfl); (case hr => exact zH100); intro gb163 hg w3 hbox hb; have n_ := zA_ (zb (zu (g := gb162) (o := .cells #[.int .i64 a0_0, .int .i64 a0_1, .string a0_2] 90 (0, 0)) zK176 hb)) (zA_ (zb (zq zK155 hb)) (zA_ (zb (hbox)) (zA_ (zb ((by rw [hg]; exact (zo zK155) : w.heap.size ≤ gb163))) (zA_ (zb ((by rw [hg]; exact (zo zK155) : w.heap.size ≤ gb163))) (zA_ (zb ((by rw [hg]; exact Nat.ne_of_lt (zae (g := gb162) (o := .cells #[.int .i64 a0_0, .int .i64 a0_1, .string a0_2] 90 (0, 0)) zK176) : gb162 ≠ gb163))) (zb ((by rw [hg]; exact Nat.ne_of_gt (zae (g := gb162) (o := .cells #[.int .i64 a0_0, .int .i64 a0_1, .string a0_2] 90 (0, 0)) zK176) : gb163 ≠ gb162)))))))); clear BK162 HB; obtain ⟨BK162, HB, BK163, GW163, GE163, NB162_163, NB163_162⟩ := n_; clear hb hbox hg) | ((with_reducible refine gate_dst (N := 3) rfl ?_); refine box_event ?hg (N := 3) ?hd (cs := #[.int .i64 0, .int .i64 0, .string (⟨#[]⟩ : ByteArray)]) (t := 98) ?hr ?_; (case hd => rfl); (case hg => rfl); (case hr => exact zH100); intro gb164 hg w4 hbox hb; have n_ := zA_ (zb (zu (g := gb162) (o := .cells #[.int .i64 a0_0, .int .i64 a0_1, .string a0_2] 90 (0, 0)) zK176 hb)) (zA_ (zb (zu (g := gb163) (o := .cells #[.int .i64 0, .int .i64 0, .string (⟨#[]⟩ : ByteArray)] 98 (0, 0)) zK177 hb)) (zA_ (zb (zq zK152 hb)) (zA_ (zb (hbox)) (zA_ (zb ((by rw [hg]; exact (zo zK152) : w.heap.size ≤ gb164))) (zA_ (zb ((by rw [hg]; exact (zo zK152) : w.heap.size ≤ gb164))) (zA_ (zb ((by rw [hg]; exact Nat.ne_of_lt (zae (g := gb162) (o := .cells #[.int .i64 a0_0, .int .i64 a0_1, .string a0_2] 90 (0, 0)) zK176) : gb162 ≠ gb164))) (zA_ (zb ((by rw [hg]; exact Nat.ne_of_gt (zae (g := gb162) (o := .cells #[.int .i64 a0_0, .int .i64 a0_1, .string a0_2] 90 (0, 0)) zK176) : gb164 ≠ gb162))) (zA_ (zb ((by rw [hg]; exact Nat.ne_of_lt (zae (g := gb163) (o := .cells #[.int .i64 0, .int .i64 0, .string (⟨#[]⟩ : ByteArray)] 98 (0, 0)) zK177) : gb163 ≠ gb164))) (zb ((by rw [hg]; exact Nat.ne_of_gt (zae (g := gb163) (o := .cells #[.int .i64 0, .int .i64 0, .string (⟨#[]⟩ : ByteArray)] 98 (0, 0)) zK177) : gb164 ≠ gb163))))))))))); clear BK162 BK163 HB; obtain ⟨BK162, BK163, HB, BK164, GW164, GE164, NB162_164, NB164_162, NB163_164, NB164_163⟩ := n_; clear hb hbox hg; have hnb5 := NB162_163.out; have hnc5 := NB163_162.out; have hnb6 := NB162_164.out; have hnc6 := NB164_162.out; have hcz7_0 : w4.cell? ⟨gb162, 0, none⟩ = some (.int .i64 a0_0) := (zg BK162.out 0).trans rfl; have hcz7_1 : w4.cell? ⟨gb162, 1, none⟩ = some (.int .i64 a0_1) := (zg BK162.out 1).trans rfl; have hcz7_2 : w4.cell? ⟨gb162, 2, none⟩ = some (.string a0_2) := (zg BK162.out 2).trans rfl; have hfz7_0 := zf BK162.out 0; have hfz7_1 := zf BK162.out 1; have hfz7_2 := zf BK162.out 2; have hnb8 := NB164_163.out; have hnc8 := NB163_164.out; have hcz9_0 : w4.cell? ⟨gb164, 0, none⟩ = some (.int .i64 0) := (zg BK164.out 0).trans rfl; have hcz9_1 : w4.cell? ⟨gb164, 1, none⟩ = some (.int .i64 0) := (zg BK164.out 1).trans rfl; have hcz9_2 : w4.cell? ⟨gb164, 2, none⟩ = some (.string (⟨#[]⟩ : ByteArray)) := (zg BK164.out 2).trans rfl; have hfz9_0 := zf BK164.out 0; have hfz9_1 := zf BK164.out 1; have hfz9_2 := zf BK164.out 2; have hcz10_0 : w4.cell? ⟨gb163, 0, none⟩ = some (.int .i64 0) := (zg BK163.out 0).trans rfl; have hcz10_1 : w4.cell? ⟨gb163, 1, none⟩ = some (.int .i64 0) := (zg BK163.out 1).trans rfl; have hcz10_2 : w4.cell? ⟨gb163, 2, none⟩ = some (.string (⟨#[]⟩ : ByteArray)) := (zg BK163.out 2).trans rfl; have hfz10_0 := zf BK163.out 0; have hfz10_1 := zf BK163.out 1; have hfz10_2 := zf BK163.out 2))
 refine bodyPost_ret (results_cell_row rfl _ _ gb163 98 #[.int .i64 a0_0, .int .i64 a0_1, .string a0_2] (0, 0) _ rfl (by (with_reducible repeat (first | refine zi ?_ _ | refine zk ?_ | refine zj ?_ _)); refine zy (cs := #[.int .i64 a0_0, .int .i64 a0_1, .string (⟨#[]⟩ : ByteArray)]) ?_ 2 _ rfl; (with_reducible repeat (first | refine zi ?_ _ | refine zk ?_ | refine zj ?_ _)); refine zy (cs := #[.int .i64 a0_0, .int .i64 0, .string (⟨#[]⟩ : ByteArray)]) ?_ 1 _ rfl; (with_reducible repeat (first | refine zi ?_ _ | refine zk ?_ | refine zj ?_ _)); refine zy (cs := #[.int .i64 0, .int .i64 0, .string (⟨#[]⟩ : ByteArray)]) ?_ 0 _ rfl; (with_reducible repeat (first | refine zi ?_ _ | refine zk ?_ | refine zj ?_ _)); refine zaf ?_ NB163_164.out _; (with_reducible repeat (first | refine zi ?_ _ | refine zk ?_ | refine zj ?_ _)); refine zaf ?_ NB163_164.out _; (with_reducible repeat (first | refine zi ?_ _ | refine zk ?_ | refine zj ?_ _)); refine zaf ?_ NB163_164.out _; (with_reducible repeat (first | refine zi ?_ _ | refine zk ?_ | refine zj ?_ _)); exact BK163.out) Try.underlying98 rfl zG96) rfl ?_
 exact ⟨zH89, by repeat (first | (with_reducible first | exact HB.out | apply ze | apply zc | apply zd | refine zh ?_ GE162.out | refine zh ?_ GE163.out | refine zh ?_ GE164.out) | exact HB.out)⟩

/-! ### laws_toShiftS: function 24 -/
def laws_toShiftS.l0 : Nat → List (S90) → List (S98) → Int → Option ((List (S98)))
 | 0, _, _, _ => none
 | k + 1, x0, x3, x4 => if x4 < (x0.length : Int) then (if 0 ≤ x4 then ((laws_toShift.f ((rd_T90 x0 x4).f0) ((rd_T90 x0 x4).f1) ((rd_T90 x0 x4).f2)).bind fun bt169 => (if x4 < (x3.length : Int) then (laws_toShiftS.l0 k x0 (x3.set (x4 : Int).toNat (⟨bt169.1, bt169.2.1, bt169.2.2⟩ : S98)) (wrap64 (x4 + 1))) else (none))) else (none)) else (some x3)
def laws_toShiftS.f (k : Nat) (l0 : List (S90)) : Option ((List (S98))) := if 0 ≤ (l0.length : Int) then (if ((l0.length : Int) : Int).toNat ≤ 8796093022208 then (laws_toShiftS.l0 k l0 (List.replicate ((l0.length : Int) : Int).toNat z98) 0) else (none)) else (none)
theorem laws_toShiftS.mono_l : ∀ k, (∀ y0 y1 y2, LeO (laws_toShiftS.l0 k y0 y1 y2) (laws_toShiftS.l0 (k + 1) y0 y1 y2))
 | 0 => fun _ _ _ r h => by simp [laws_toShiftS.l0] at h
 | k + 1 => by
  have ih0 := laws_toShiftS.mono_l k
  ·intro y0 y1 y2
   unfold laws_toShiftS.l0
   repeat' first
   | (with_reducible exact ih0 _ _ _)
   | (with_reducible exact LeO.refl _)
   | (with_reducible exact LeO.none _)
   | (with_reducible refine LeO.ite ?_ ?_)
   | (with_reducible refine LeO.bind ?_ (fun _ => ?_))
   | exact ih0 _ _ _
   | exact LeO.none _
   | refine LeO.ite ?_ ?_
   | refine LeO.bind ?_ (fun _ => ?_)
theorem laws_toShiftS.mono : ∀ a0 k, LeO (laws_toShiftS.f k a0) (laws_toShiftS.f (k + 1) a0) := by
 intro a0 k
 have ih0 := laws_toShiftS.mono_l k
 unfold laws_toShiftS.f
 repeat' first
   | (with_reducible exact ih0 _ _ _)
   | (with_reducible exact LeO.refl _)
   | (with_reducible exact LeO.none _)
   | (with_reducible refine LeO.ite ?_ ?_)
   | (with_reducible refine LeO.bind ?_ (fun _ => ?_))
   | exact ih0 _ _ _
   | exact LeO.none _
   | refine LeO.ite ?_ ?_
   | refine LeO.bind ?_ (fun _ => ?_)
set_option maxHeartbeats 8000000 in
set_option maxRecDepth 100000 in
theorem laws_toShiftS.calls (k : Nat) (A0 : Option Addr) (c0 : Nat) (l0 : List (S90)) (r : List (S98)) (w : World) (hr0 : Kd.C k90 w A0 l0.length l0) (hc0 : l0.length ≤ c0) (h : laws_toShiftS.f k l0 = some r) :
  Calls Try.prog 24 #[.slice A0 l0.length c0] w fun e w' => ∃ v0_ : Value, e = .returned (v0_) ∧ Kd.R k98 98 w' w.heap.size (fun _ => True) v0_ r ∧ Below w.heap.size w w' := by
 have hu90 := Try.underlying90
 have hu98 := Try.underlying98
 have HR0 := zb hr0
 have HC0 := zb hc0
 clear hr0 hc0
 have HB := zb (Below.refl w.heap.size w)
 have H : (if 0 ≤ (l0.length : Int) then (if ((l0.length : Int) : Int).toNat ≤ 8796093022208 then (laws_toShiftS.l0 k l0 (List.replicate ((l0.length : Int) : Int).toNat z98) 0) else (none)) else (none)) = some r := h
 clear h
 by_cases c2 : 0 ≤ (l0.length : Int)
 rotate_left
 ·rw [if_neg c2] at H
  exact absurd H (by simp)

 rw [if_pos c2] at H
 have c2b0 := eq_true c2
 have c2b1 := decide_eq_true c2
 clear c2
 by_cases c3 : ((l0.length : Int) : Int).toNat ≤ 8796093022208
 rotate_left
 ·rw [if_neg c3] at H
  exact absurd H (by simp)
 rw [if_pos c3] at H
 have c3b0 := eq_true c3
 have c3b1 := decide_eq_true c3
 clear c3
 obtain ⟨y165, hy165⟩ : ∃ y_ : List (S98), y_ = (List.replicate ((l0.length : Int) : Int).toNat z98) := ⟨_, rfl⟩
 replace H : (laws_toShiftS.l0 k l0 y165 0) = some r := by first | (rw [hy165]; with_reducible exact H) | (have H2_ := (Option.bind_some _ _).symm.trans H; rw [hy165]; with_reducible exact H2_) | (have H2_ := (Option.bind_some _ _).symm.trans H; with_reducible exact H2_) | with_reducible exact H | (rw [hy165]; exact H) | exact H
 have Ny165 := zb hy165
 clear hy165
 have H' := zb H
 clear H
 go_enter Try.func24, Try.ntmps24
 go_wp2_with (first | ((with_reducible refine gate_dst (N := 7) rfl ?_); refine Kd.R_make k98 _ 98 rfl (N := 7) rfl 53 _ _ rfl (l0.length : Int) rfl rfl Try.underlying53 (.agg #[(.int .i64 0), (.int .i64 0), (.string ⟨#[]⟩)]) 32 info98 rfl (by decide) (by omega) z98 (ok := fun _ => True) (okp := fun _ => True) (k98_mkM _ _ _ z98 ) (fun _ hk => hk) trivial zO (Nat.le_trans (Nat.mul_le_mul_right _ (zO : (l0.length : Int).toNat ≤ 8796093022208)) (by omega)) (Below.refl _ _) (Nat.le_refl _) ?_; intro v166 w4 ho5 hb hg_ hnew_; clear hg_ hnew_; (first | rw [← Ny165.out] at ho5 | (simp only [Int.reduceToNat] at ho5; rw [← Ny165.out] at ho5)); have n_ := zA_ (zb (zag ho5 (zo zG76))) (zb (zq zG76 hb)); clear HB; obtain ⟨HO167, HB⟩ := n_; clear hb ho5))
 go_loopg [4] k (fun kq v4 w' => ∃ (x3_1 : List (S98)) (x4_1 : Int), v4 = .int .i64 x4_1 ∧ Aside0 (laws_toShiftS.l0 kq l0 x3_1 x4_1 = some r) ∧ Aside0 (kq ≤ k) ∧ Aside0 (Kd.R k98 98 w' w.heap.size (fun _ => True) v166 x3_1) ∧ Aside0 (Below w.heap.size w w'))
 case atStart => exact ⟨(y165), (0), zG95, H', ⟨Nat.le_refl _⟩, ⟨by (with_reducible repeat (first | apply zl | apply zm | apply zn)); exact HO167.out⟩, ⟨zH79⟩⟩
 case round =>
  clear H'
  try clear c2
  try clear c2b0
  try clear c2b1
  try clear p2
  try clear c3
  try clear c3b0
  try clear c3b1
  obtain ⟨x3_1, x4_1, rfl, HA, HK1, HO_3, HB⟩ := hrel
  cases gk with
  | zero => exact absurd HA.out (by simp [laws_toShiftS.l0])
  | succ k1 =>
   have H := HA.out
   clear HA
   simp only [laws_toShiftS.l0] at H
   by_cases c6 : x4_1 < (l0.length : Int)
   rotate_left
   ·rw [if_neg c6] at H
    have c6b0 := decide_eq_false c6
    clear c6
    obtain rfl := Option.some.inj H
    go_wp2
    go_ret
    exact zH10
   rw [if_pos c6] at H
   have c6b0 := decide_eq_true c6
   clear c6
   by_cases c7 : 0 ≤ x4_1
   rotate_left
   ·rw [if_neg c7] at H
    exact absurd H (by simp)
   rw [if_pos c7] at H
   have c7b0 := decide_eq_true c7
   clear c7
   replace H := Option.bind_eq_some_iff.mp H
   obtain ⟨⟨t169, t170, t171⟩, A80, H⟩ := H
   replace H : (if x4_1 < (x3_1.length : Int) then (laws_toShiftS.l0 k1 l0 (x3_1.set (x4_1 : Int).toNat (⟨t169, t170, t171⟩ : S98)) (wrap64 (x4_1 + 1))) else (none)) = some r := H
   have A8 := zb A80
   clear A80
   by_cases c9 : x4_1 < (x3_1.length : Int)
   rotate_left
   ·rw [if_neg c9] at H
    exact absurd H (by simp)
   rw [if_pos c9] at H
   have c9b0 := decide_eq_true c9
   clear c9
   obtain ⟨y172, hy172⟩ : ∃ y_ : List (S98), y_ = (x3_1.set (x4_1 : Int).toNat (⟨t169, t170, t171⟩ : S98)) := ⟨_, rfl⟩
   replace H : (laws_toShiftS.l0 k1 l0 y172 (wrap64 (x4_1 + 1))) = some r := by first | (rw [hy172]; with_reducible exact H) | (have H2_ := (Option.bind_some _ _).symm.trans H; rw [hy172]; with_reducible exact H2_) | (have H2_ := (Option.bind_some _ _).symm.trans H; with_reducible exact H2_) | with_reducible exact H | (rw [hy172]; exact H) | exact H
   have Ny172 := zb hy172
   clear hy172
   have H' := zb H
   clear H
   have p168 : 0 ≤ (x4_1 : Int) := zO
   have q168 : x4_1 < (l0.length : Int) := zO
   obtain ⟨ad168, e168, hx168_0, hx168_1, hx168_2⟩ := at_T90 HR0.out x4_1 p168 q168
   cases e168
   replace hx168_0 := (HB.out.cell (za w _ hx168_0)).trans hx168_0
   replace hx168_1 := (HB.out.cell (za w _ hx168_1)).trans hx168_1
   replace hx168_2 := (HB.out.cell (za w _ hx168_2)).trans hx168_2
   replace p168 := eq_true p168
   replace q168 := eq_true q168
   go_wp2_with (first | ((with_reducible refine gate_callee (f := 56) rfl ?_); refine goesL_ (some 20) rfl rfl Try.func56 zG96 rfl #[.agg #[.int .i64 ((rd_T90 l0 x4_1).f0), .int .i64 ((rd_T90 l0 x4_1).f1), .string ((rd_T90 l0 x4_1).f2)]] rfl zG65 ?_; (with_reducible refine (laws_toShift.calls ((rd_T90 l0 x4_1).f0) ((rd_T90 l0 x4_1).f1) ((rd_T90 l0 x4_1).f2) t169 t170 t171 _ A8.out).mono ?_); rintro e w11 ⟨rfl, hb⟩; refine ⟨_, rfl, ?_⟩; have n_ := zA_ (zb (zp (by (with_reducible repeat (first | apply zl | apply zm | apply zn)); exact HO_3.out) hb)) (zb (zq zG76 hb)); clear HO_3 HB; obtain ⟨HO_3, HB⟩ := n_; (try clear hb); (try clear hk); have p10 : 0 ≤ (x4_1 : Int) := zO; have q10 : (x4_1 : Int) < ((x3_1.length : Int) : Int) := zO; obtain ⟨go10, co10, eo10, gb10, gl10, cl10, HG10⟩ := zbi HO_3.out (by omega); (first | cases eo10 | (injection eo10 with ea_ en_ ec_; (first | subst ea_ | (injection ea_ with ea_; subst ea_)); subst ec_; clear en_)); have GB10 := zb gb10; have GG10 := zb HG10; clear gb10 gl10 HG10; obtain ⟨ce10, hcl10, hM10, hcc10, hfr10⟩ := zba HO_3.out z98 (x4_1 : Int) p10 q10; obtain rfl := k98_openM hM10; have hx10_0 : w11.cell? ⟨go10, (x4_1 : Int).toNat * 3, none⟩ = some (.int .i64 ((rd_T98 x3_1 x4_1).f0)) := hcc10 0 _ rfl; have hx10_1 : w11.cell? ⟨go10, (x4_1 : Int).toNat * 3 + 1, none⟩ = some (.int .i64 ((rd_T98 x3_1 x4_1).f1)) := hcc10 1 _ rfl; have hx10_2 : w11.cell? ⟨go10, (x4_1 : Int).toNat * 3 + 2, none⟩ = some (.string ((rd_T98 x3_1 x4_1).f2)) := hcc10 2 _ rfl; have hf10_0 : w11.frozen? ⟨go10, (x4_1 : Int).toNat * 3, none⟩ = false := hfr10 0; have hf10_1 : w11.frozen? ⟨go10, (x4_1 : Int).toNat * 3 + 1, none⟩ = false := hfr10 1; have hf10_2 : w11.frozen? ⟨go10, (x4_1 : Int).toNat * 3 + 2, none⟩ = false := hfr10 2; clear hcl10 hcc10 hfr10 hM10; replace p10 := eq_true p10; replace q10 := eq_true q10; have HX12 := zb (show Kd.R k98 98 w11 w.heap.size (fun _ => True) (.slice (some ⟨go10, 0, none⟩) x3_1.length co10) x3_1 from (by (with_reducible repeat (first | apply zl | apply zm | apply zn)); exact HO_3.out)); obtain ⟨ce12, hcl12, hM12, hcc12, hfr12⟩ := zba HX12.out z98 (x4_1 : Int) zO (by have h_ : (x4_1 : Int) < ((x3_1.length : Int) : Int) := zO; first | exact h_ | (have e_ := (Kd.R_reads' HO_3.out).1; omega) | simpa using h_); obtain rfl := k98_openM hM12; have HP12 := Kd.R_seg HX12.out (x4_1 : Int) zO (by have h_ : (x4_1 : Int) < ((x3_1.length : Int) : Int) := zO; first | exact h_ | (have e_ := (Kd.R_reads' HO_3.out).1; omega) | simpa using h_) (seg := [.int .i64 t169, .int .i64 t170, .string t171]) (j := 0) hcl12 hcc12 (show 3 ≤ 3 from by decide) (x' := (⟨t169, t170, t171⟩ : S98)) (k98_mkM _ _ _ (⟨t169, t170, t171⟩ : S98) ) (fun _ hk => hk); have hx12_0 := hcc12 0 _ rfl; (try simp only [show (k98).sz = 3 from rfl, Nat.mul_one, Nat.add_zero] at hx12_0); have hf12_0 := hfr12 0; (try simp only [show (k98).sz = 3 from rfl, Nat.mul_one, Nat.add_zero] at hf12_0); have hx12_1 := hcc12 1 _ rfl; (try simp only [show (k98).sz = 3 from rfl, Nat.mul_one, Nat.add_zero] at hx12_1); have hf12_1 := hfr12 1; (try simp only [show (k98).sz = 3 from rfl, Nat.mul_one, Nat.add_zero] at hf12_1); have hx12_2 := hcc12 2 _ rfl; (try simp only [show (k98).sz = 3 from rfl, Nat.mul_one, Nat.add_zero] at hx12_2); have hf12_2 := hfr12 2; (try simp only [show (k98).sz = 3 from rfl, Nat.mul_one, Nat.add_zero] at hf12_2); clear hcl12 hcc12 hfr12 hM12) | ((with_reducible refine gate_store (t := 98) (p := 21) rfl ?_); refine store_event (t := 98) (p := 21) (v := ?vo_w13) (w1 := (((w11.setCell ⟨go10, (x4_1 : Int).toNat * 3, none⟩ (.int .i64 t169)).setCell ⟨go10, (x4_1 : Int).toNat * 3 + 1, none⟩ (.int .i64 t170)).setCell ⟨go10, (x4_1 : Int).toNat * 3 + 2, none⟩ (.string t171))) ?hg ?ho ?hn ?hr ?_; (case ho => rfl); (case hg => rfl); (case hn => rfl); (case hr => exact zH100); intro w13 hw; have hg : w11.grownBy w13 (some go10) := (by rw [hw]; exact HP12.2); have hp_ : Kd.R k98 98 w13 w.heap.size (fun _ => True) (.slice (some ⟨go10, 0, none⟩) x3_1.length co10) y172 := (by rw [hw, Ny172.out]; exact HP12.1); clear HP12; have n_ := zA_ (zb (hp_)) (zb ((by rw [hw]; exact zh (zh (zh (HB.out) GB10.out) GB10.out) GB10.out : Below w.heap.size w w13))); clear HO_3 HB; obtain ⟨HO_3, HB⟩ := n_; clear hg hw hp_))
   go_roundg k1
   case measure => have := HK1.out; omega
   case rel => exact ⟨(y172), (wrap64 (x4_1 + 1)), zG95, H', ⟨zH104⟩, ⟨zH92⟩, ⟨zH79⟩⟩
/-! ### laws_toStringS: function 79 -/
def laws_toStringS.l0 : Nat → List ByteArray → List ByteArray → Int → Option (List ByteArray)
 | 0, _, _, _ => none
 | k + 1, x0, x3, x4 => if x4 < (x0.length : Int) then (if 0 ≤ x4 then (if x4 < (x3.length : Int) then (laws_toStringS.l0 k x0 (x3.set (x4 : Int).toNat (rdOf ByteArray.empty x0 x4)) (wrap64 (x4 + 1))) else (none)) else (none)) else (some x3)
def laws_toStringS.f (k : Nat) (l0 : List ByteArray) : Option (List ByteArray) := if 0 ≤ (l0.length : Int) then (if ((l0.length : Int) : Int).toNat ≤ 17592186044416 then (laws_toStringS.l0 k l0 (List.replicate ((l0.length : Int) : Int).toNat (⟨#[]⟩ : ByteArray)) 0) else (none)) else (none)
theorem laws_toStringS.mono_l : ∀ k, (∀ y0 y1 y2, LeO (laws_toStringS.l0 k y0 y1 y2) (laws_toStringS.l0 (k + 1) y0 y1 y2))
 | 0 => fun _ _ _ r h => by simp [laws_toStringS.l0] at h
 | k + 1 => by
  have ih0 := laws_toStringS.mono_l k
  ·intro y0 y1 y2
   unfold laws_toStringS.l0
   repeat' first
   | (with_reducible exact ih0 _ _ _)
   | (with_reducible exact LeO.refl _)
   | (with_reducible exact LeO.none _)
   | (with_reducible refine LeO.ite ?_ ?_)
   | (with_reducible refine LeO.bind ?_ (fun _ => ?_))
   | exact ih0 _ _ _
   | exact LeO.none _
   | refine LeO.ite ?_ ?_
   | refine LeO.bind ?_ (fun _ => ?_)
theorem laws_toStringS.mono : ∀ a0 k, LeO (laws_toStringS.f k a0) (laws_toStringS.f (k + 1) a0) := by
 intro a0 k
 have ih0 := laws_toStringS.mono_l k
 unfold laws_toStringS.f
 repeat' first
   | (with_reducible exact ih0 _ _ _)
   | (with_reducible exact LeO.refl _)
   | (with_reducible exact LeO.none _)
   | (with_reducible refine LeO.ite ?_ ?_)
   | (with_reducible refine LeO.bind ?_ (fun _ => ?_))
   | exact ih0 _ _ _
   | exact LeO.none _
   | refine LeO.ite ?_ ?_
   | refine LeO.bind ?_ (fun _ => ?_)
set_option maxHeartbeats 8000000 in
set_option maxRecDepth 100000 in
theorem laws_toStringS.calls (k : Nat) (A0 : Option Addr) (c0 : Nat) (l0 : List ByteArray) (r : List ByteArray) (w : World) (hr0 : Kd.C Kd.string w A0 l0.length l0) (hc0 : l0.length ≤ c0) (h : laws_toStringS.f k l0 = some r) :
  Calls Try.prog 79 #[.slice A0 l0.length c0] w fun e w' => ∃ v0_ : Value, e = .returned (v0_) ∧ Kd.R Kd.string 9 w' w.heap.size (fun _ => True) v0_ r ∧ Below w.heap.size w w' := by
 have HR0 := zb hr0
 have HC0 := zb hc0
 clear hr0 hc0
 have HB := zb (Below.refl w.heap.size w)
 have H : (if 0 ≤ (l0.length : Int) then (if ((l0.length : Int) : Int).toNat ≤ 17592186044416 then (laws_toStringS.l0 k l0 (List.replicate ((l0.length : Int) : Int).toNat (⟨#[]⟩ : ByteArray)) 0) else (none)) else (none)) = some r := h
 clear h
 by_cases c2 : 0 ≤ (l0.length : Int)
 rotate_left
 ·rw [if_neg c2] at H
  exact absurd H (by simp)

 rw [if_pos c2] at H
 have c2b0 := eq_true c2
 have c2b1 := decide_eq_true c2
 clear c2
 by_cases c3 : ((l0.length : Int) : Int).toNat ≤ 17592186044416
 rotate_left
 ·rw [if_neg c3] at H
  exact absurd H (by simp)
 rw [if_pos c3] at H
 have c3b0 := eq_true c3
 have c3b1 := decide_eq_true c3
 clear c3
 obtain ⟨y173, hy173⟩ : ∃ y_ : List ByteArray, y_ = (List.replicate ((l0.length : Int) : Int).toNat (⟨#[]⟩ : ByteArray)) := ⟨_, rfl⟩
 replace H : (laws_toStringS.l0 k l0 y173 0) = some r := by first | (rw [hy173]; with_reducible exact H) | (have H2_ := (Option.bind_some _ _).symm.trans H; rw [hy173]; with_reducible exact H2_) | (have H2_ := (Option.bind_some _ _).symm.trans H; with_reducible exact H2_) | with_reducible exact H | (rw [hy173]; exact H) | exact H
 have Ny173 := zb hy173
 clear hy173
 have H' := zb H
 clear H
 go_enter Try.func79, Try.ntmps79
 go_wp2_with (first | ((with_reducible refine gate_dst (N := 7) rfl ?_); refine Kd.R_make Kd.string _ 9 rfl (N := 7) rfl 92 _ _ rfl (l0.length : Int) rfl rfl Try.underlying92 (.string ⟨#[]⟩) 16 info9 rfl (by decide) (by omega) (⟨#[]⟩ : ByteArray) (ok := fun _ => True) (okp := fun _ => True) rfl (fun _ hk => hk) trivial zO (Nat.le_trans (Nat.mul_le_mul_right _ (zO : (l0.length : Int).toNat ≤ 17592186044416)) (by omega)) (Below.refl _ _) (Nat.le_refl _) ?_; intro v174 w4 ho5 hb hg_ hnew_; clear hg_ hnew_; (first | rw [← Ny173.out] at ho5 | (simp only [Int.reduceToNat] at ho5; rw [← Ny173.out] at ho5)); have n_ := zA_ (zb (zag ho5 (zo zG76))) (zb (zq zG76 hb)); clear HB; obtain ⟨HO175, HB⟩ := n_; clear hb ho5))
 go_loopg [4] k (fun kq v4 w' => ∃ (x3_1 : List ByteArray) (x4_1 : Int), v4 = .int .i64 x4_1 ∧ Aside0 (laws_toStringS.l0 kq l0 x3_1 x4_1 = some r) ∧ Aside0 (kq ≤ k) ∧ Aside0 (Kd.R Kd.string 9 w' w.heap.size (fun _ => True) v174 x3_1) ∧ Aside0 (Below w.heap.size w w'))
 case atStart => exact ⟨(y173), (0), zG95, H', ⟨Nat.le_refl _⟩, ⟨by (with_reducible repeat (first | apply zl | apply zm | apply zn)); exact HO175.out⟩, ⟨zH79⟩⟩
 case round =>
  clear H'
  try clear c2
  try clear c2b0
  try clear c2b1
  try clear p2
  try clear c3
  try clear c3b0
  try clear c3b1
  obtain ⟨x3_1, x4_1, rfl, HA, HK1, HO_3, HB⟩ := hrel
  cases gk with
  | zero => exact absurd HA.out (by simp [laws_toStringS.l0])
  | succ k1 =>
   have H := HA.out
   clear HA
   simp only [laws_toStringS.l0] at H
   by_cases c6 : x4_1 < (l0.length : Int)
   rotate_left
   ·rw [if_neg c6] at H
    have c6b0 := decide_eq_false c6
    clear c6
    obtain rfl := Option.some.inj H
    go_wp2
    go_ret
    exact zH10
   rw [if_pos c6] at H
   have c6b0 := decide_eq_true c6
   clear c6
   by_cases c7 : 0 ≤ x4_1
   rotate_left
   ·rw [if_neg c7] at H
    exact absurd H (by simp)
   rw [if_pos c7] at H
   have c7b0 := decide_eq_true c7
   clear c7
   by_cases c8 : x4_1 < (x3_1.length : Int)
   rotate_left
   ·rw [if_neg c8] at H
    exact absurd H (by simp)
   rw [if_pos c8] at H
   have c8b0 := decide_eq_true c8
   clear c8
   obtain ⟨y177, hy177⟩ : ∃ y_ : List ByteArray, y_ = (x3_1.set (x4_1 : Int).toNat (rdOf ByteArray.empty l0 x4_1)) := ⟨_, rfl⟩
   replace H : (laws_toStringS.l0 k1 l0 y177 (wrap64 (x4_1 + 1))) = some r := by first | (rw [hy177]; with_reducible exact H) | (have H2_ := (Option.bind_some _ _).symm.trans H; rw [hy177]; with_reducible exact H2_) | (have H2_ := (Option.bind_some _ _).symm.trans H; with_reducible exact H2_) | with_reducible exact H | (rw [hy177]; exact H) | exact H
   have Ny177 := zb hy177
   clear hy177
   have H' := zb H
   clear H
   have p176 : 0 ≤ (x4_1 : Int) := zO
   have q176 : x4_1 < (l0.length : Int) := zO
   obtain ⟨ad176, e176, hx176_0⟩ := zam HR0.out x4_1 p176 q176
   cases e176
   replace hx176_0 := (HB.out.cell (za w _ hx176_0)).trans hx176_0
   replace p176 := eq_true p176
   replace q176 := eq_true q176
   have p9 : 0 ≤ (x4_1 : Int) := zO
   have q9 : (x4_1 : Int) < ((x3_1.length : Int) : Int) := zO
   obtain ⟨go9, co9, eo9, gb9, gl9, cl9, HG9⟩ := zbi HO_3.out (by omega)
   (first | cases eo9 | (injection eo9 with ea_ en_ ec_; (first | subst ea_ | (injection ea_ with ea_; subst ea_)); subst ec_; clear en_))
   have GB9 := zb gb9
   have GG9 := zb HG9
   clear gb9 gl9 HG9
   obtain ⟨hx9_0, hf9_0⟩ := Kd.R_celln (⟨#[]⟩ : ByteArray) HO_3.out (x4_1 : Int) p9 q9
   replace p9 := eq_true p9
   replace q9 := eq_true q9
   have HP10 := Kd.R_putg HO_3.out (x4_1 : Int) (rdOf ByteArray.empty l0 x4_1)
   go_wp2_with (first | ((with_reducible refine gate_store (t := 9) (p := 20) rfl ?_); refine store_event (t := 9) (p := 20) (v := ?vo_w11) (w1 := (wr.setCell ⟨go9, (x4_1 : Int).toNat, none⟩ (.string (rdOf ByteArray.empty l0 x4_1)))) ?hg ?ho ?hn ?hr ?_; (case ho => rfl); (case hg => rfl); (case hn => rfl); (case hr => exact zH100); intro w11 hw; have hg : wr.grownBy w11 (some go9) := (by rw [hw]; exact HP10.2); have hp_ : Kd.R Kd.string 9 w11 w.heap.size (fun _ => True) (.slice (some ⟨go9, 0, none⟩) x3_1.length co9) y177 := (by rw [hw, Ny177.out]; exact HP10.1); clear HP10; have n_ := zA_ (zb (hp_)) (zb ((by rw [hw]; exact zh (HB.out) GB9.out : Below w.heap.size w w11))); clear HO_3 HB; obtain ⟨HO_3, HB⟩ := n_; clear hg hw hp_))
   go_roundg k1
   case measure => have := HK1.out; omega
   case rel => exact ⟨(y177), (wrap64 (x4_1 + 1)), zG95, H', ⟨zH104⟩, ⟨zH92⟩, ⟨zH79⟩⟩
/-! ### laws_toWorker: function 57 -/
def laws_toWorker.f (k : Nat) (a0_0 : ByteArray) (a0_1 : Int) (a0_2 : Int) (a0_3 : Int) (l0_4 : List ByteArray) : Option (ByteArray × Int × Int × Int × List ByteArray) := (laws_toStringS.f k l0_4).bind fun t181 => (some (a0_0, a0_1, a0_2, a0_3, t181))
theorem laws_toWorker.mono : ∀ a0 a1 a2 a3 a4 k, LeO (laws_toWorker.f k a0 a1 a2 a3 a4) (laws_toWorker.f (k + 1) a0 a1 a2 a3 a4) := by
 intro a0 a1 a2 a3 a4 k
 unfold laws_toWorker.f
 repeat' first
   | (with_reducible exact laws_toStringS.mono _ _)
   | (with_reducible exact LeO.refl _)
   | (with_reducible exact LeO.none _)
   | (with_reducible refine LeO.ite ?_ ?_)
   | (with_reducible refine LeO.bind ?_ (fun _ => ?_))
   | exact laws_toStringS.mono _ _
   | exact LeO.none _
   | refine LeO.ite ?_ ?_
   | refine LeO.bind ?_ (fun _ => ?_)
set_option maxHeartbeats 8000000 in
set_option maxRecDepth 100000 in
theorem laws_toWorker.calls (k : Nat) (a0_0 : ByteArray) (a0_1 : Int) (a0_2 : Int) (a0_3 : Int) (A0_4 : Option Addr) (c0_4 : Nat) (l0_4 : List ByteArray) (r1 : ByteArray) (r2 : Int) (r3 : Int) (r4 : Int) (r5 : List ByteArray) (w : World) (hr0_4 : Kd.C Kd.string w A0_4 l0_4.length l0_4) (hc0_4 : l0_4.length ≤ c0_4) (h : laws_toWorker.f k a0_0 a0_1 a0_2 a0_3 l0_4 = some (r1, r2, r3, r4, r5)) :
  Calls Try.prog 57 #[.agg #[.string a0_0, .int .i64 a0_1, .int .i64 a0_2, .int .i64 a0_3, .slice A0_4 l0_4.length c0_4]] w fun e w' => ∃ v4_ : Value, e = .returned (.agg #[.string r1, .int .i64 r2, .int .i64 r3, .int .i64 r4, v4_]) ∧ Kd.R Kd.string 9 w' w.heap.size (fun _ => True) v4_ r5 ∧ Below w.heap.size w w' := by
 have hu94 := Try.underlying94
 have hu100 := Try.underlying100
 have HR0_4 := zb hr0_4
 have HC0_4 := zb hc0_4
 clear hr0_4 hc0_4
 have HB := zb (Below.refl w.heap.size w)
 have H : ((laws_toStringS.f k l0_4).bind fun t181 => (some (a0_0, a0_1, a0_2, a0_3, t181))) = some (r1, r2, r3, r4, r5) := h
 clear h
 replace H := Option.bind_eq_some_iff.mp H
 obtain ⟨t181, A20, H⟩ := H
 replace H : (some (a0_0, a0_1, a0_2, a0_3, t181)) = some (r1, r2, r3, r4, r5) := H
 have A2 := zb A20
 clear A20
 simp only [Option.some.injEq, Prod.mk.injEq] at H
 obtain ⟨rfl, rfl, rfl, rfl, rfl⟩ := H
 go_enter Try.func57, Try.ntmps57
 go_wp2_with (first | ((with_reducible refine gate_dst (N := 1) rfl ?_); refine box_event ?hg (N := 1) ?hd (cs := #[.string a0_0, .int .i64 a0_1, .int .i64 a0_2, .int .i64 a0_3, .slice A0_4 l0_4.length c0_4]) (t := 94) ?hr ?_; (case hd => rfl); (case hg => rfl); (case hr => exact zH100); intro gb178 hg w3 hbox hb; have n_ := zA_ (zb (zq zG76 hb)) (zA_ (zb (hbox)) (zA_ (zb ((by rw [hg]; exact (zo zG76) : w.heap.size ≤ gb178))) (zb ((by rw [hg]; exact (zo zG76) : w.heap.size ≤ gb178))))); clear HB; obtain ⟨HB, BK178, GW178, GE178⟩ := n_; clear hb hbox hg) | ((with_reducible refine gate_dst (N := 2) rfl ?_); refine box_event ?hg (N := 2) ?hd (cs := #[.string (⟨#[]⟩ : ByteArray), .int .i64 0, .int .i64 0, .int .i64 0, .slice none 0 0]) (t := 100) ?hr ?_; (case hd => rfl); (case hg => rfl); (case hr => exact zH100); intro gb179 hg w4 hbox hb; have n_ := zA_ (zb (zu (g := gb178) (o := .cells #[.string a0_0, .int .i64 a0_1, .int .i64 a0_2, .int .i64 a0_3, .slice A0_4 l0_4.length c0_4] 94 (0, 0)) zK178 hb)) (zA_ (zb (zq zK156 hb)) (zA_ (zb (hbox)) (zA_ (zb ((by rw [hg]; exact (zo zK156) : w.heap.size ≤ gb179))) (zA_ (zb ((by rw [hg]; exact (zo zK156) : w.heap.size ≤ gb179))) (zA_ (zb ((by rw [hg]; exact Nat.ne_of_lt (zae (g := gb178) (o := .cells #[.string a0_0, .int .i64 a0_1, .int .i64 a0_2, .int .i64 a0_3, .slice A0_4 l0_4.length c0_4] 94 (0, 0)) zK178) : gb178 ≠ gb179))) (zb ((by rw [hg]; exact Nat.ne_of_gt (zae (g := gb178) (o := .cells #[.string a0_0, .int .i64 a0_1, .int .i64 a0_2, .int .i64 a0_3, .slice A0_4 l0_4.length c0_4] 94 (0, 0)) zK178) : gb179 ≠ gb178)))))))); clear BK178 HB; obtain ⟨BK178, HB, BK179, GW179, GE179, NB178_179, NB179_178⟩ := n_; clear hb hbox hg) | ((with_reducible refine gate_dst (N := 3) rfl ?_); refine box_event ?hg (N := 3) ?hd (cs := #[.string (⟨#[]⟩ : ByteArray), .int .i64 0, .int .i64 0, .int .i64 0, .slice none 0 0]) (t := 100) ?hr ?_; (case hd => rfl); (case hg => rfl); (case hr => exact zH100); intro gb180 hg w5 hbox hb; have n_ := zA_ (zb (zu (g := gb178) (o := .cells #[.string a0_0, .int .i64 a0_1, .int .i64 a0_2, .int .i64 a0_3, .slice A0_4 l0_4.length c0_4] 94 (0, 0)) zK178 hb)) (zA_ (zb (zu (g := gb179) (o := .cells #[.string (⟨#[]⟩ : ByteArray), .int .i64 0, .int .i64 0, .int .i64 0, .slice none 0 0] 100 (0, 0)) zK179 hb)) (zA_ (zb (zq zK153 hb)) (zA_ (zb (hbox)) (zA_ (zb ((by rw [hg]; exact (zo zK153) : w.heap.size ≤ gb180))) (zA_ (zb ((by rw [hg]; exact (zo zK153) : w.heap.size ≤ gb180))) (zA_ (zb ((by rw [hg]; exact Nat.ne_of_lt (zae (g := gb178) (o := .cells #[.string a0_0, .int .i64 a0_1, .int .i64 a0_2, .int .i64 a0_3, .slice A0_4 l0_4.length c0_4] 94 (0, 0)) zK178) : gb178 ≠ gb180))) (zA_ (zb ((by rw [hg]; exact Nat.ne_of_gt (zae (g := gb178) (o := .cells #[.string a0_0, .int .i64 a0_1, .int .i64 a0_2, .int .i64 a0_3, .slice A0_4 l0_4.length c0_4] 94 (0, 0)) zK178) : gb180 ≠ gb178))) (zA_ (zb ((by rw [hg]; exact Nat.ne_of_lt (zae (g := gb179) (o := .cells #[.string (⟨#[]⟩ : ByteArray), .int .i64 0, .int .i64 0, .int .i64 0, .slice none 0 0] 100 (0, 0)) zK179) : gb179 ≠ gb180))) (zb ((by rw [hg]; exact Nat.ne_of_gt (zae (g := gb179) (o := .cells #[.string (⟨#[]⟩ : ByteArray), .int .i64 0, .int .i64 0, .int .i64 0, .slice none 0 0] 100 (0, 0)) zK179) : gb180 ≠ gb179))))))))))); clear BK178 BK179 HB; obtain ⟨BK178, BK179, HB, BK180, GW180, GE180, NB178_180, NB180_178, NB179_180, NB180_179⟩ := n_; clear hb hbox hg; have hnb6 := NB178_179.out; have hnc6 := NB179_178.out; have hnb7 := NB178_180.out; have hnc7 := NB180_178.out; have hcz8_0 : w5.cell? ⟨gb178, 0, none⟩ = some (.string a0_0) := (zg BK178.out 0).trans rfl; have hcz8_1 : w5.cell? ⟨gb178, 1, none⟩ = some (.int .i64 a0_1) := (zg BK178.out 1).trans rfl; have hcz8_2 : w5.cell? ⟨gb178, 2, none⟩ = some (.int .i64 a0_2) := (zg BK178.out 2).trans rfl; have hcz8_3 : w5.cell? ⟨gb178, 3, none⟩ = some (.int .i64 a0_3) := (zg BK178.out 3).trans rfl; have hcz8_4 : w5.cell? ⟨gb178, 4, none⟩ = some (.slice A0_4 l0_4.length c0_4) := (zg BK178.out 4).trans rfl; have hfz8_0 := zf BK178.out 0; have hfz8_1 := zf BK178.out 1; have hfz8_2 := zf BK178.out 2; have hfz8_3 := zf BK178.out 3; have hfz8_4 := zf BK178.out 4; have hnb9 := NB180_179.out; have hnc9 := NB179_180.out; have hcz10_0 : w5.cell? ⟨gb180, 0, none⟩ = some (.string (⟨#[]⟩ : ByteArray)) := (zg BK180.out 0).trans rfl; have hcz10_1 : w5.cell? ⟨gb180, 1, none⟩ = some (.int .i64 0) := (zg BK180.out 1).trans rfl; have hcz10_2 : w5.cell? ⟨gb180, 2, none⟩ = some (.int .i64 0) := (zg BK180.out 2).trans rfl; have hcz10_3 : w5.cell? ⟨gb180, 3, none⟩ = some (.int .i64 0) := (zg BK180.out 3).trans rfl; have hcz10_4 : w5.cell? ⟨gb180, 4, none⟩ = some (.slice none 0 0) := (zg BK180.out 4).trans rfl; have hfz10_0 := zf BK180.out 0; have hfz10_1 := zf BK180.out 1; have hfz10_2 := zf BK180.out 2; have hfz10_3 := zf BK180.out 3; have hfz10_4 := zf BK180.out 4) | ((with_reducible refine gate_callee (f := 79) rfl ?_); refine goesL_ (some 18) rfl rfl Try.func79 zG96 rfl #[.slice A0_4 l0_4.length c0_4] rfl zG65 ?_; (with_reducible refine (laws_toStringS.calls k _ _ l0_4 t181 _ ?side1 ?side2 A2.out).mono ?_); (case side1 => exact zw HR0_4.out zK150); (case side2 => exact HC0_4.out); rintro e w11 ⟨v182, rfl, ho0, hb⟩; refine ⟨_, rfl, ?_⟩; have n_ := zA_ (zb (zag ho0 (zo zK150))) (zA_ (zb (zu (g := gb178) (o := .cells #[.string a0_0, .int .i64 a0_1, .int .i64 a0_2, .int .i64 a0_3, .slice A0_4 l0_4.length c0_4] 94 (0, 0)) (by (with_reducible repeat (first | refine zi ?_ _ | refine zk ?_ | refine zj ?_ _)); refine zaf ?_ NB178_180.out _; (with_reducible repeat (first | refine zi ?_ _ | refine zk ?_ | refine zj ?_ _)); refine zaf ?_ NB178_180.out _; (with_reducible repeat (first | refine zi ?_ _ | refine zk ?_ | refine zj ?_ _)); refine zaf ?_ NB178_180.out _; (with_reducible repeat (first | refine zi ?_ _ | refine zk ?_ | refine zj ?_ _)); refine zaf ?_ NB178_180.out _; (with_reducible repeat (first | refine zi ?_ _ | refine zk ?_ | refine zj ?_ _)); exact BK178.out) hb)) (zA_ (zb (zu (g := gb179) (o := .cells #[.string (⟨#[]⟩ : ByteArray), .int .i64 0, .int .i64 0, .int .i64 0, .slice none 0 0] 100 (0, 0)) (by (with_reducible repeat (first | refine zi ?_ _ | refine zk ?_ | refine zj ?_ _)); refine zaf ?_ NB179_180.out _; (with_reducible repeat (first | refine zi ?_ _ | refine zk ?_ | refine zj ?_ _)); refine zaf ?_ NB179_180.out _; (with_reducible repeat (first | refine zi ?_ _ | refine zk ?_ | refine zj ?_ _)); refine zaf ?_ NB179_180.out _; (with_reducible repeat (first | refine zi ?_ _ | refine zk ?_ | refine zj ?_ _)); refine zaf ?_ NB179_180.out _; (with_reducible repeat (first | refine zi ?_ _ | refine zk ?_ | refine zj ?_ _)); exact BK179.out) hb)) (zA_ (zb (zu (g := gb180) (o := .cells #[.string a0_0, .int .i64 a0_1, .int .i64 a0_2, .int .i64 a0_3, .slice none 0 0] 100 (0, 0)) (by (with_reducible repeat (first | refine zi ?_ _ | refine zk ?_ | refine zj ?_ _)); refine zy (cs := #[.string a0_0, .int .i64 a0_1, .int .i64 a0_2, .int .i64 0, .slice none 0 0]) ?_ 3 _ rfl; (with_reducible repeat (first | refine zi ?_ _ | refine zk ?_ | refine zj ?_ _)); refine zy (cs := #[.string a0_0, .int .i64 a0_1, .int .i64 0, .int .i64 0, .slice none 0 0]) ?_ 2 _ rfl; (with_reducible repeat (first | refine zi ?_ _ | refine zk ?_ | refine zj ?_ _)); refine zy (cs := #[.string a0_0, .int .i64 0, .int .i64 0, .int .i64 0, .slice none 0 0]) ?_ 1 _ rfl; (with_reducible repeat (first | refine zi ?_ _ | refine zk ?_ | refine zj ?_ _)); refine zy (cs := #[.string (⟨#[]⟩ : ByteArray), .int .i64 0, .int .i64 0, .int .i64 0, .slice none 0 0]) ?_ 0 _ rfl; (with_reducible repeat (first | refine zi ?_ _ | refine zk ?_ | refine zj ?_ _)); exact BK180.out) hb)) (zb (zq zK150 hb))))); clear BK178 BK179 BK180 HB; obtain ⟨HO183, BK178, BK179, BK180, HB⟩ := n_; (try clear hb); (try clear ho0); obtain ⟨Ao12, co12, eo12⟩ := zah HO183.out; subst eo12; have hcz13_0 : w11.cell? ⟨gb180, 0, none⟩ = some (.string a0_0) := (zg BK180.out 0).trans rfl; have hcz13_1 : w11.cell? ⟨gb180, 1, none⟩ = some (.int .i64 a0_1) := (zg BK180.out 1).trans rfl; have hcz13_2 : w11.cell? ⟨gb180, 2, none⟩ = some (.int .i64 a0_2) := (zg BK180.out 2).trans rfl; have hcz13_3 : w11.cell? ⟨gb180, 3, none⟩ = some (.int .i64 a0_3) := (zg BK180.out 3).trans rfl; have hcz13_4 : w11.cell? ⟨gb180, 4, none⟩ = some (.slice none 0 0) := (zg BK180.out 4).trans rfl; have hfz13_0 := zf BK180.out 0; have hfz13_1 := zf BK180.out 1; have hfz13_2 := zf BK180.out 2; have hfz13_3 := zf BK180.out 3; have hfz13_4 := zf BK180.out 4; have hcz14_0 : w11.cell? ⟨gb179, 0, none⟩ = some (.string (⟨#[]⟩ : ByteArray)) := (zg BK179.out 0).trans rfl; have hcz14_1 : w11.cell? ⟨gb179, 1, none⟩ = some (.int .i64 0) := (zg BK179.out 1).trans rfl; have hcz14_2 : w11.cell? ⟨gb179, 2, none⟩ = some (.int .i64 0) := (zg BK179.out 2).trans rfl; have hcz14_3 : w11.cell? ⟨gb179, 3, none⟩ = some (.int .i64 0) := (zg BK179.out 3).trans rfl; have hcz14_4 : w11.cell? ⟨gb179, 4, none⟩ = some (.slice none 0 0) := (zg BK179.out 4).trans rfl; have hfz14_0 := zf BK179.out 0; have hfz14_1 := zf BK179.out 1; have hfz14_2 := zf BK179.out 2; have hfz14_3 := zf BK179.out 3; have hfz14_4 := zf BK179.out 4))
 refine bodyPost_ret (results_cell_row rfl _ _ gb179 100 #[.string a0_0, .int .i64 a0_1, .int .i64 a0_2, .int .i64 a0_3, .slice Ao12 t181.length co12] (0, 0) _ rfl (by (with_reducible repeat (first | refine zi ?_ _ | refine zk ?_ | refine zj ?_ _)); refine zy (cs := #[.string a0_0, .int .i64 a0_1, .int .i64 a0_2, .int .i64 a0_3, .slice none 0 0]) ?_ 4 _ rfl; (with_reducible repeat (first | refine zi ?_ _ | refine zk ?_ | refine zj ?_ _)); refine zy (cs := #[.string a0_0, .int .i64 a0_1, .int .i64 a0_2, .int .i64 0, .slice none 0 0]) ?_ 3 _ rfl; (with_reducible repeat (first | refine zi ?_ _ | refine zk ?_ | refine zj ?_ _)); refine zy (cs := #[.string a0_0, .int .i64 a0_1, .int .i64 0, .int .i64 0, .slice none 0 0]) ?_ 2 _ rfl; (with_reducible repeat (first | refine zi ?_ _ | refine zk ?_ | refine zj ?_ _)); refine zy (cs := #[.string a0_0, .int .i64 0, .int .i64 0, .int .i64 0, .slice none 0 0]) ?_ 1 _ rfl; (with_reducible repeat (first | refine zi ?_ _ | refine zk ?_ | refine zj ?_ _)); refine zy (cs := #[.string (⟨#[]⟩ : ByteArray), .int .i64 0, .int .i64 0, .int .i64 0, .slice none 0 0]) ?_ 0 _ rfl; (with_reducible repeat (first | refine zi ?_ _ | refine zk ?_ | refine zj ?_ _)); refine zaf ?_ NB179_180.out _; (with_reducible repeat (first | refine zi ?_ _ | refine zk ?_ | refine zj ?_ _)); exact BK179.out) Try.underlying100 rfl zG96) rfl ?_
 exact ⟨_, zH89, by (with_reducible repeat (first | apply zl | apply zm | apply zn)); exact zx (zv (p := ⟨gb179, 4, none⟩) (zv (p := ⟨gb179, 3, none⟩) (zv (p := ⟨gb179, 2, none⟩) (zv (p := ⟨gb179, 1, none⟩) (zv (p := ⟨gb179, 0, none⟩) (zv (p := ⟨gb180, 4, none⟩) (zab (zab HO183.out BK180.out (by decide)) BK179.out (by decide)) (fun _ hk => hk.1.2) (.slice Ao12 t181.length co12)) (fun _ hk => hk.2) (.string a0_0)) (fun _ hk => hk.2) (.int .i64 a0_1)) (fun _ hk => hk.2) (.int .i64 a0_2)) (fun _ hk => hk.2) (.int .i64 a0_3)) (fun _ hk => hk.2) (.slice Ao12 t181.length co12)) (fun _ hk => trivial), by repeat (first | (with_reducible first | exact HB.out | apply ze | apply zc | apply zd | refine zh ?_ GE178.out | refine zh ?_ GE179.out | refine zh ?_ GE180.out) | exact HB.out)⟩

/-! ### laws_toWorkerS: function 25 -/
def laws_toWorkerS.l0 : Nat → List (S94) → List (S100) → Int → Option ((List (S100)))
 | 0, _, _, _ => none
 | k + 1, x0, x3, x4 => if x4 < (x0.length : Int) then (if 0 ≤ x4 then ((laws_toWorker.f k ((rd_T94 x0 x4).f0) ((rd_T94 x0 x4).f1) ((rd_T94 x0 x4).f2) ((rd_T94 x0 x4).f3) ((rd_T94 x0 x4).f4)).bind fun bt188 => (if x4 < (x3.length : Int) then (laws_toWorkerS.l0 k x0 (x3.set (x4 : Int).toNat (⟨bt188.1, bt188.2.1, bt188.2.2.1, bt188.2.2.2.1, bt188.2.2.2.2⟩ : S100)) (wrap64 (x4 + 1))) else (none))) else (none)) else (some x3)
def laws_toWorkerS.f (k : Nat) (l0 : List (S94)) : Option ((List (S100))) := if 0 ≤ (l0.length : Int) then (if ((l0.length : Int) : Int).toNat ≤ 4398046511104 then (laws_toWorkerS.l0 k l0 (List.replicate ((l0.length : Int) : Int).toNat z100) 0) else (none)) else (none)
theorem laws_toWorkerS.mono_l : ∀ k, (∀ y0 y1 y2, LeO (laws_toWorkerS.l0 k y0 y1 y2) (laws_toWorkerS.l0 (k + 1) y0 y1 y2))
 | 0 => fun _ _ _ r h => by simp [laws_toWorkerS.l0] at h
 | k + 1 => by
  have ih0 := laws_toWorkerS.mono_l k
  ·intro y0 y1 y2
   unfold laws_toWorkerS.l0
   repeat' first
   | (with_reducible exact ih0 _ _ _)
   | (with_reducible exact laws_toWorker.mono _ _ _ _ _ _)
   | (with_reducible exact LeO.refl _)
   | (with_reducible exact LeO.none _)
   | (with_reducible refine LeO.ite ?_ ?_)
   | (with_reducible refine LeO.bind ?_ (fun _ => ?_))
   | exact ih0 _ _ _
   | exact laws_toWorker.mono _ _ _ _ _ _
   | exact LeO.none _
   | refine LeO.ite ?_ ?_
   | refine LeO.bind ?_ (fun _ => ?_)
theorem laws_toWorkerS.mono : ∀ a0 k, LeO (laws_toWorkerS.f k a0) (laws_toWorkerS.f (k + 1) a0) := by
 intro a0 k
 have ih0 := laws_toWorkerS.mono_l k
 unfold laws_toWorkerS.f
 repeat' first
   | (with_reducible exact ih0 _ _ _)
   | (with_reducible exact laws_toWorker.mono _ _ _ _ _ _)
   | (with_reducible exact LeO.refl _)
   | (with_reducible exact LeO.none _)
   | (with_reducible refine LeO.ite ?_ ?_)
   | (with_reducible refine LeO.bind ?_ (fun _ => ?_))
   | exact ih0 _ _ _
   | exact laws_toWorker.mono _ _ _ _ _ _
   | exact LeO.none _
   | refine LeO.ite ?_ ?_
   | refine LeO.bind ?_ (fun _ => ?_)
set_option maxHeartbeats 8000000 in
set_option maxRecDepth 100000 in
theorem laws_toWorkerS.calls (k : Nat) (A0 : Option Addr) (c0 : Nat) (l0 : List (S94)) (r : List (S100)) (w : World) (hr0 : Kd.C k94 w A0 l0.length l0) (hc0 : l0.length ≤ c0) (h : laws_toWorkerS.f k l0 = some r) :
  Calls Try.prog 25 #[.slice A0 l0.length c0] w fun e w' => ∃ v0_ : Value, e = .returned (v0_) ∧ Kd.S k100 100 w' w.heap.size (fun _ => True) v0_ r ∧ Below w.heap.size w w' := by
 have hu94 := Try.underlying94
 have hu100 := Try.underlying100
 have HR0 := zb hr0
 have HC0 := zb hc0
 clear hr0 hc0
 have HB := zb (Below.refl w.heap.size w)
 have H : (if 0 ≤ (l0.length : Int) then (if ((l0.length : Int) : Int).toNat ≤ 4398046511104 then (laws_toWorkerS.l0 k l0 (List.replicate ((l0.length : Int) : Int).toNat z100) 0) else (none)) else (none)) = some r := h
 clear h
 by_cases c2 : 0 ≤ (l0.length : Int)
 rotate_left
 ·rw [if_neg c2] at H
  exact absurd H (by simp)

 rw [if_pos c2] at H
 have c2b0 := eq_true c2
 have c2b1 := decide_eq_true c2
 clear c2
 by_cases c3 : ((l0.length : Int) : Int).toNat ≤ 4398046511104
 rotate_left
 ·rw [if_neg c3] at H
  exact absurd H (by simp)
 rw [if_pos c3] at H
 have c3b0 := eq_true c3
 have c3b1 := decide_eq_true c3
 clear c3
 obtain ⟨y184, hy184⟩ : ∃ y_ : List (S100), y_ = (List.replicate ((l0.length : Int) : Int).toNat z100) := ⟨_, rfl⟩
 replace H : (laws_toWorkerS.l0 k l0 y184 0) = some r := by first | (rw [hy184]; with_reducible exact H) | (have H2_ := (Option.bind_some _ _).symm.trans H; rw [hy184]; with_reducible exact H2_) | (have H2_ := (Option.bind_some _ _).symm.trans H; with_reducible exact H2_) | with_reducible exact H | (rw [hy184]; exact H) | exact H
 have Ny184 := zb hy184
 clear hy184
 have H' := zb H
 clear H
 go_enter Try.func25, Try.ntmps25
 go_wp2_with (first | ((with_reducible refine gate_dst (N := 7) rfl ?_); refine Kd.S_make k100 _ 100 rfl (N := 7) rfl 55 _ _ rfl (l0.length : Int) rfl rfl Try.underlying55 (.agg #[(.string ⟨#[]⟩), (.int .i64 0), (.int .i64 0), (.int .i64 0), (.slice none 0 0)]) 64 info100 rfl (by decide) (by omega) z100 (ok := fun _ => True) (okp := fun _ => True) (k100_mkM _ _ _ z100 (zax _ _ _ _ _)) (fun _ hk => hk) trivial zO (Nat.le_trans (Nat.mul_le_mul_right _ (zO : (l0.length : Int).toNat ≤ 4398046511104)) (by omega)) (Below.refl _ _) (Nat.le_refl _) ?_; intro v185 w4 ho5 hb hg_ hnew_; clear hg_ hnew_; (first | rw [← Ny184.out] at ho5 | (simp only [Int.reduceToNat] at ho5; rw [← Ny184.out] at ho5)); have n_ := zA_ (zb (zbf ho5 (zo zG76))) (zb (zq zG76 hb)); clear HB; obtain ⟨HO186, HB⟩ := n_; clear hb ho5))
 go_loopg [4] k (fun kq v4 w' => ∃ (x3_1 : List (S100)) (x4_1 : Int), v4 = .int .i64 x4_1 ∧ Aside0 (laws_toWorkerS.l0 kq l0 x3_1 x4_1 = some r) ∧ Aside0 (kq ≤ k) ∧ Aside0 (Kd.S k100 100 w' w.heap.size (fun _ => True) v185 x3_1) ∧ Aside0 (Below w.heap.size w w'))
 case atStart => exact ⟨(y184), (0), zG95, H', ⟨Nat.le_refl _⟩, ⟨by (with_reducible repeat (first | apply zz | apply zaa | apply zac)); exact HO186.out⟩, ⟨zH79⟩⟩
 case round =>
  clear H'
  try clear c2
  try clear c2b0
  try clear c2b1
  try clear p2
  try clear c3
  try clear c3b0
  try clear c3b1
  obtain ⟨x3_1, x4_1, rfl, HA, HK1, HO_3, HB⟩ := hrel
  cases gk with
  | zero => exact absurd HA.out (by simp [laws_toWorkerS.l0])
  | succ k1 =>
   have H := HA.out
   clear HA
   simp only [laws_toWorkerS.l0] at H
   by_cases c6 : x4_1 < (l0.length : Int)
   rotate_left
   ·rw [if_neg c6] at H
    have c6b0 := decide_eq_false c6
    clear c6
    obtain rfl := Option.some.inj H
    go_wp2
    go_ret
    exact ⟨_, zH89, by (with_reducible repeat (first | apply zz | apply zaa | apply zac)); exact HO_3.out, zH79⟩
   rw [if_pos c6] at H
   have c6b0 := decide_eq_true c6
   clear c6
   by_cases c7 : 0 ≤ x4_1
   rotate_left
   ·rw [if_neg c7] at H
    exact absurd H (by simp)
   rw [if_pos c7] at H
   have c7b0 := decide_eq_true c7
   clear c7
   replace H := Option.bind_eq_some_iff.mp H
   obtain ⟨⟨t188, t189, t190, t191, t192⟩, A80, H⟩ := H
   replace H : (if x4_1 < (x3_1.length : Int) then (laws_toWorkerS.l0 k1 l0 (x3_1.set (x4_1 : Int).toNat (⟨t188, t189, t190, t191, t192⟩ : S100)) (wrap64 (x4_1 + 1))) else (none)) = some r := H
   have A8 := zb A80
   clear A80
   by_cases c9 : x4_1 < (x3_1.length : Int)
   rotate_left
   ·rw [if_neg c9] at H
    exact absurd H (by simp)
   rw [if_pos c9] at H
   have c9b0 := decide_eq_true c9
   clear c9
   obtain ⟨y195, hy195⟩ : ∃ y_ : List (S100), y_ = (x3_1.set (x4_1 : Int).toNat (⟨t188, t189, t190, t191, t192⟩ : S100)) := ⟨_, rfl⟩
   replace H : (laws_toWorkerS.l0 k1 l0 y195 (wrap64 (x4_1 + 1))) = some r := by first | (rw [hy195]; with_reducible exact H) | (have H2_ := (Option.bind_some _ _).symm.trans H; rw [hy195]; with_reducible exact H2_) | (have H2_ := (Option.bind_some _ _).symm.trans H; with_reducible exact H2_) | with_reducible exact H | (rw [hy195]; exact H) | exact H
   have Ny195 := zb hy195
   clear hy195
   have H' := zb H
   clear H
   have p187 : 0 ≤ (x4_1 : Int) := zO
   have q187 : x4_1 < (l0.length : Int) := zO
   obtain ⟨ad187, A187_4, c187_4, e187, hx187_0, hx187_1, hx187_2, hx187_3, hx187_4, hl187_4, hi187_4⟩ := at_T94 HR0.out x4_1 p187 q187
   cases e187
   replace hx187_0 := (HB.out.cell (za w _ hx187_0)).trans hx187_0
   replace hx187_1 := (HB.out.cell (za w _ hx187_1)).trans hx187_1
   replace hx187_2 := (HB.out.cell (za w _ hx187_2)).trans hx187_2
   replace hx187_3 := (HB.out.cell (za w _ hx187_3)).trans hx187_3
   replace hx187_4 := (HB.out.cell (za w _ hx187_4)).trans hx187_4
   have HR187_4 := zb hi187_4
   have HC187_4 := zb hl187_4
   clear hi187_4 hl187_4
   replace p187 := eq_true p187
   replace q187 := eq_true q187
   go_wp2_with (first | ((with_reducible refine gate_callee (f := 57) rfl ?_); refine goesL_ (some 20) rfl rfl Try.func57 zG96 rfl #[.agg #[.string ((rd_T94 l0 x4_1).f0), .int .i64 ((rd_T94 l0 x4_1).f1), .int .i64 ((rd_T94 l0 x4_1).f2), .int .i64 ((rd_T94 l0 x4_1).f3), .slice A187_4 ((rd_T94 l0 x4_1).f4).length c187_4]] rfl zG65 ?_; (with_reducible refine (laws_toWorker.calls k1 ((rd_T94 l0 x4_1).f0) ((rd_T94 l0 x4_1).f1) ((rd_T94 l0 x4_1).f2) ((rd_T94 l0 x4_1).f3) _ _ ((rd_T94 l0 x4_1).f4) t188 t189 t190 t191 t192 _ ?side1 ?side2 A8.out).mono ?_); (case side1 => repeat (first | exact (zw HR187_4.out HB.out) | (with_reducible refine zr ?_ _) | (with_reducible refine zs ?_ _) | (with_reducible refine zt ?_))); (case side2 => exact HC187_4.out); rintro e w11 ⟨v193, rfl, ho0, hb⟩; refine ⟨_, rfl, ?_⟩; have n_ := zA_ (zb (zbh (by (with_reducible repeat (first | apply zz | apply zaa | apply zac)); exact HO_3.out) (zal ho0) hb)) (zA_ (zb (zag ho0 (zo zG76))) (zb (zq zG76 hb))); clear HO_3 HB; obtain ⟨HO_3, HO194, HB⟩ := n_; (try clear hb); (try clear hk); (try clear ho0); have p10 : 0 ≤ (x4_1 : Int) := zO; have q10 : (x4_1 : Int) < ((x3_1.length : Int) : Int) := zO; obtain ⟨go10, co10, eo10, gb10, gl10, cl10, HG10⟩ := Kd.S_form HO_3.out (by omega); (first | cases eo10 | (injection eo10 with ea_ en_ ec_; (first | subst ea_ | (injection ea_ with ea_; subst ea_)); subst ec_; clear en_)); have GB10 := zb gb10; have GG10 := zb HG10; clear gb10 gl10 HG10; obtain ⟨_, ce10, hcl10, hM10, hcc10, hfr10, _, _⟩ := Kd.S_elem HO_3.out z100 (x4_1 : Int) p10 q10; obtain ⟨ve10_4, rfl, ge10_4⟩ := k100_openM hM10; have hx10_0 : w11.cell? ⟨go10, (x4_1 : Int).toNat * 5, none⟩ = some (.string ((rd_T100 x3_1 x4_1).f0)) := hcc10 0 _ rfl; have hx10_1 : w11.cell? ⟨go10, (x4_1 : Int).toNat * 5 + 1, none⟩ = some (.int .i64 ((rd_T100 x3_1 x4_1).f1)) := hcc10 1 _ rfl; have hx10_2 : w11.cell? ⟨go10, (x4_1 : Int).toNat * 5 + 2, none⟩ = some (.int .i64 ((rd_T100 x3_1 x4_1).f2)) := hcc10 2 _ rfl; have hx10_3 : w11.cell? ⟨go10, (x4_1 : Int).toNat * 5 + 3, none⟩ = some (.int .i64 ((rd_T100 x3_1 x4_1).f3)) := hcc10 3 _ rfl; have hx10_4 : w11.cell? ⟨go10, (x4_1 : Int).toNat * 5 + 4, none⟩ = some (ve10_4) := hcc10 4 _ rfl; have hf10_0 : w11.frozen? ⟨go10, (x4_1 : Int).toNat * 5, none⟩ = false := hfr10 0; have hf10_1 : w11.frozen? ⟨go10, (x4_1 : Int).toNat * 5 + 1, none⟩ = false := hfr10 1; have hf10_2 : w11.frozen? ⟨go10, (x4_1 : Int).toNat * 5 + 2, none⟩ = false := hfr10 2; have hf10_3 : w11.frozen? ⟨go10, (x4_1 : Int).toNat * 5 + 3, none⟩ = false := hfr10 3; have hf10_4 : w11.frozen? ⟨go10, (x4_1 : Int).toNat * 5 + 4, none⟩ = false := hfr10 4; clear hcl10 hcc10 hfr10 hM10; replace p10 := eq_true p10; replace q10 := eq_true q10; have n_ := zb (zar (ok' := (fun k_ => some k_ ≠ (v193 : Value).ownBlock)) HO_3.out (fun k_ hk => hk.2)); clear HO_3; have HO_3 := n_; clear n_; have HX12 := zb (show Kd.S k100 100 w11 w.heap.size (fun k_ => ((fun _ => True)) k_ ∧ ¬ ((fun k_ => some k_ = (v193 : Value).ownBlock)) k_) (.slice (some ⟨go10, 0, none⟩) x3_1.length co10) x3_1 from (by (with_reducible repeat (first | apply zz | apply zaa | apply zac)); exact zar HO_3.out (fun k_ hk => ⟨trivial, fun e_ => hk e_⟩))); obtain ⟨oki12, ce12, hcl12, hM12, hcc12, hfr12, hoki12, hH12⟩ := Kd.S_elem HX12.out z100 (x4_1 : Int) zO (by have h_ : (x4_1 : Int) < ((x3_1.length : Int) : Int) := zO; first | exact h_ | (have e_ := (zak HO_3.out).1; omega) | simpa using h_); obtain ⟨ve12_4, rfl, ge12_4⟩ := k100_openM hM12; have HP12 := Kd.S_seg hH12 zO (by have h_ : (x4_1 : Int) < ((x3_1.length : Int) : Int) := zO; first | exact h_ | (have e_ := (zak HO_3.out).1; omega) | simpa using h_) (seg := [.string t188, .int .i64 t189, .int .i64 t190, .int .i64 t191, v193]) (j := 0) (show 5 ≤ 5 from by decide) (x' := (⟨t188, t189, t190, t191, t192⟩ : S100)) (k100_mkM _ _ _ (⟨t188, t189, t190, t191, t192⟩ : S100) (zx (zat rfl (zx (ok' := fun k_ => ((fun _ => True)) k_ ∧ k_ ≠ go10) (zaz (HO194.out) (Kd.S_typed HO_3.out) (by decide)) (fun k_ hk => ⟨trivial, fun e_ => (hk.2) (by rw [e_]; rfl)⟩))) (fun _ h_ => Or.inr (h_)))) (fun _ hk => hk) (fun k_ hk_ => ((zx (ok' := fun k_ => ((fun _ => True)) k_ ∧ k_ ≠ go10) (zaz (HO194.out) (Kd.S_typed HO_3.out) (by decide)) (fun k_ hk => ⟨trivial, fun e_ => (hk.2) (by rw [e_]; rfl)⟩))).1 k_ hk_.symm); have hx12_0 := hcc12 0 _ rfl; (try simp only [show (k100).sz = 5 from rfl, Nat.mul_one, Nat.add_zero] at hx12_0); have hf12_0 := hfr12 0; (try simp only [show (k100).sz = 5 from rfl, Nat.mul_one, Nat.add_zero] at hf12_0); have hx12_1 := hcc12 1 _ rfl; (try simp only [show (k100).sz = 5 from rfl, Nat.mul_one, Nat.add_zero] at hx12_1); have hf12_1 := hfr12 1; (try simp only [show (k100).sz = 5 from rfl, Nat.mul_one, Nat.add_zero] at hf12_1); have hx12_2 := hcc12 2 _ rfl; (try simp only [show (k100).sz = 5 from rfl, Nat.mul_one, Nat.add_zero] at hx12_2); have hf12_2 := hfr12 2; (try simp only [show (k100).sz = 5 from rfl, Nat.mul_one, Nat.add_zero] at hf12_2); have hx12_3 := hcc12 3 _ rfl; (try simp only [show (k100).sz = 5 from rfl, Nat.mul_one, Nat.add_zero] at hx12_3); have hf12_3 := hfr12 3; (try simp only [show (k100).sz = 5 from rfl, Nat.mul_one, Nat.add_zero] at hf12_3); have hx12_4 := hcc12 4 _ rfl; (try simp only [show (k100).sz = 5 from rfl, Nat.mul_one, Nat.add_zero] at hx12_4); have hf12_4 := hfr12 4; (try simp only [show (k100).sz = 5 from rfl, Nat.mul_one, Nat.add_zero] at hf12_4); clear hcl12 hcc12 hfr12 hM12 hoki12 hH12) | ((with_reducible refine gate_store (t := 100) (p := 21) rfl ?_); refine store_event (t := 100) (p := 21) (v := ?vo_w13) (w1 := (((((w11.setCell ⟨go10, (x4_1 : Int).toNat * 5, none⟩ (.string t188)).setCell ⟨go10, (x4_1 : Int).toNat * 5 + 1, none⟩ (.int .i64 t189)).setCell ⟨go10, (x4_1 : Int).toNat * 5 + 2, none⟩ (.int .i64 t190)).setCell ⟨go10, (x4_1 : Int).toNat * 5 + 3, none⟩ (.int .i64 t191)).setCell ⟨go10, (x4_1 : Int).toNat * 5 + 4, none⟩ (v193))) ?hg ?ho ?hn ?hr ?_; (case ho => rfl); (case hg => rfl); (case hn => rfl); (case hr => first | (go_simp; done) | (go_simp; rfl) | ((have hst0_ : (v193 : Value).oneCell' = true := (Kd.R_val (Aside0.out (by assumption))).2); go_simp; rw [run_store _ _ _ _ _ hst0_]; go_simp; done) | ((have hst0_ : (v193 : Value).oneCell' = true := (Kd.R_val (Aside0.out (by assumption))).2); go_simp; rw [run_store _ _ _ _ _ hst0_]; go_simp; rfl)); intro w13 hw; have hg : w11.grownBy w13 (some go10) := (by rw [hw]; exact HP12.2); have hp_ : Kd.S k100 100 w13 w.heap.size (fun _ => True) (.slice (some ⟨go10, 0, none⟩) x3_1.length co10) y195 := (by rw [hw, Ny195.out]; exact HP12.1); clear HP12; have n_ := zA_ (zb (hp_)) (zb ((by rw [hw]; exact zh (zh (zh (zh (zh (HB.out) GB10.out) GB10.out) GB10.out) GB10.out) GB10.out : Below w.heap.size w w13))); clear HO_3 HB HO194; obtain ⟨HO_3, HB⟩ := n_; clear hg hw hp_))
   go_roundg k1
   case measure => have := HK1.out; omega
   case rel => exact ⟨(y195), (wrap64 (x4_1 + 1)), zG95, H', ⟨zH104⟩, ⟨by (with_reducible repeat (first | apply zz | apply zaa | apply zac)); exact HO_3.out⟩, ⟨zH79⟩⟩
/-! ### impl_isList_int: function 43 -/
def impl_isList_int.f (l0 : List Int) : Option (Bool) := some (decide ((l0.length : Int) ≤ 4096))
set_option maxHeartbeats 8000000 in
set_option maxRecDepth 100000 in
theorem impl_isList_int.calls (A0 : Option Addr) (c0 : Nat) (l0 : List Int) (r : Bool) (w : World) (hr0 : Kd.C (Kd.int .i64) w A0 l0.length l0) (hc0 : l0.length ≤ c0) (h : impl_isList_int.f l0 = some r) :
  Calls Try.prog 43 #[.slice A0 l0.length c0] w fun e w' => e = .returned (.bool r) ∧ Drawn0 w w' := by
 have HR0 := zb hr0
 have HC0 := zb hc0
 clear hr0 hc0
 have H : (some (decide ((l0.length : Int) ≤ 4096))) = some r := h
 clear h
 obtain rfl := Option.some.inj H
 go_enter Try.func43, Try.ntmps43
 go_wp2
 go_ret
 exact zH68

/-! ### impl_Shift: function 58 -/
def impl_Shift.f (l0 : List (S98)) : Option (Bool) := some (decide ((l0.length : Int) ≤ 4096))
set_option maxHeartbeats 8000000 in
set_option maxRecDepth 100000 in
theorem impl_Shift.calls (A0 : Option Addr) (c0 : Nat) (l0 : List (S98)) (r : Bool) (w : World) (hr0 : Kd.C k98 w A0 l0.length l0) (hc0 : l0.length ≤ c0) (h : impl_Shift.f l0 = some r) :
  Calls Try.prog 58 #[.slice A0 l0.length c0] w fun e w' => e = .returned (.bool r) ∧ Drawn0 w w' := by
 have HR0 := zb hr0
 have HC0 := zb hc0
 clear hr0 hc0
 have H : (some (decide ((l0.length : Int) ≤ 4096))) = some r := h
 clear h
 obtain rfl := Option.some.inj H
 go_enter Try.func58, Try.ntmps58
 go_wp2
 go_ret
 exact zH68

/-! ### impl_Worker: function 59 -/
def impl_Worker.f (l0 : List (S100)) : Option (Bool) := some (decide ((l0.length : Int) ≤ 4096))
set_option maxHeartbeats 8000000 in
set_option maxRecDepth 100000 in
theorem impl_Worker.calls (A0 : Option Addr) (c0 : Nat) (l0 : List (S100)) (r : Bool) (w : World) (hr0 : Kd.C k100 w A0 l0.length l0) (hc0 : l0.length ≤ c0) (h : impl_Worker.f l0 = some r) :
  Calls Try.prog 59 #[.slice A0 l0.length c0] w fun e w' => e = .returned (.bool r) ∧ Drawn0 w w' := by
 have HR0 := zb hr0
 have HC0 := zb hc0
 clear hr0 hc0
 have H : (some (decide ((l0.length : Int) ≤ 4096))) = some r := h
 clear h
 obtain rfl := Option.some.inj H
 go_enter Try.func59, Try.ntmps59
 go_wp2
 go_ret
 exact zH68

/-! ### impl_within: function 61 -/
def impl_within.f (a0 : Int) (a1 : Int) (a2 : Int) : Option (Bool) := if a0 ≥ a1 then (some (decide (a0 ≤ a2))) else (some false)
set_option maxHeartbeats 8000000 in
set_option maxRecDepth 100000 in
theorem impl_within.calls (a0 : Int) (a1 : Int) (a2 : Int) (r : Bool) (w : World) (h : impl_within.f a0 a1 a2 = some r) :
  Calls Try.prog 61 #[.int .i64 a0, .int .i64 a1, .int .i64 a2] w fun e w' => e = .returned (.bool r) ∧ Drawn0 w w' := by
 have H : (if a0 ≥ a1 then (some (decide (a0 ≤ a2))) else (some false)) = some r := h
 clear h
 by_cases c4 : a0 ≥ a1
 ·rw [if_pos c4] at H
  have c4b0 : decide (a1 ≤ a0) = true := decide_eq_true c4
  clear c4
  obtain rfl := Option.some.inj H
  go_enter Try.func61, Try.ntmps61
  go_wp2
  go_ret
  exact zH68
 rw [if_neg c4] at H
 have c4b0 : decide (a1 ≤ a0) = false := decide_eq_false c4
 clear c4
 obtain rfl := Option.some.inj H
 go_enter Try.func61, Try.ntmps61
 go_wp2
 go_ret
 exact zH68

end Go.Proofs.Ytjibigpdbpipcaa.R
