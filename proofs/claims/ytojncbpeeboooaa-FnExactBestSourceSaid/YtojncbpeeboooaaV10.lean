-- squeezed
-- made by pp.py (wip/tools) out of the translation; Lean checks it
import Derived.Test.YtojncbpeeboooaaV0
import Derived.Test.YtojncbpeeboooaaV6
import Derived.Test.YtojncbpeeboooaaV9
namespace Go.Proofs.Ytojncbpeeboooaa.V
open Go.RowKit Go.Proofs.YtojncbpeeboooaaW.PrintWords Go.Proofs.YtojncbpeeboooaaW.PrintLast Go.Proofs.YtojncbpeeboooaaW.PrintMore
attribute [local go_sem] max2_int min2_int max_two min_two max_three min_three max_four min_four   -- for this text's walks alone
set_option linter.unusedVariables false
set_option linter.unusedSimpArgs false

abbrev b10A0 := zM 13 0
abbrev b10A1 := zM 13 1
abbrev b10A2 := zM 13 1023
abbrev b10A3 := zM 13 2047
abbrev b10A4 := zM 13 4095
abbrev b10A5 := zM 13 8191
abbrev b10A6 := zM 13 3
abbrev b10A7 := zM 13 7
abbrev b10A8 := zM 13 15
abbrev b10A9 := zM 13 143
abbrev b10A10 := zM 13 399
abbrev b10A11 := zM 13 911
abbrev b10A12 := zM 13 927
abbrev b10A13 := zM 13 959
abbrev b10A14 := zM 10 0
abbrev b10A15 := zM 10 1
abbrev b10A16 := zM 10 5
abbrev b10A17 := zM 10 13
abbrev b10A18 := zM 10 29
abbrev b10A19 := zM 10 31
abbrev b10A20 := zM 10 63
abbrev b10A21 := zM 10 127
abbrev b10A22 := zM 10 255
abbrev b10A23 := zM 10 511
abbrev b10A24 := zM 10 1023
/-! ### spec_SourceOf: function 135 -/
mutual
def spec_SourceOf.j0 : Nat → List (S58) → List (S124) → List Int → Bool → Option (List Int × Int × Int × Int)
 | 0, _, _, _, _ => none
 | k + 1, x0, x1, x2, x24 => if x24 = true then (some (([] : List Int), 0, 0, 2)) else ((spec_SourcesOK.f k x0 x1).bind fun t231 => (if t231 = true then (if (x2.length : Int) = (x1.length : Int) then (if 0 ≤ (x0.length : Int) then (if ((x0.length : Int) : Int).toNat ≤ 281474976710656 then (spec_SourceOf.l0 k x0 x1 x2 (List.replicate ((x0.length : Int) : Int).toNat false) 0 0 0) else (none)) else (none)) else (some (([] : List Int), 0, 0, 3))) else (some (([] : List Int), 0, 0, 1))))
def spec_SourceOf.l0 : Nat → List (S58) → List (S124) → List Int → List Bool → Int → Int → Int → Option (List Int × Int × Int × Int)
 | 0, _, _, _, _, _, _, _ => none
 | k + 1, x0, x1, x2, x9, x10, x233001, x233002 => if x10 < (x2.length : Int) then (if 0 ≤ x10 then ((spec_l01In.f (rd x2 x10) 0 (wrap64 ((x0.length : Int) - 1))).bind fun t237 => (if t237 = true then (spec_SourceOf.l0 k x0 x1 x2 x9 (wrap64 (x10 + 1)) x233001 x233002) else (some (([] : List Int), 0, 0, 3)))) else (none)) else (spec_SourceOf.l1 k x0 x1 x2 x9 0 ([] : List Int) x233001 x233002)
def spec_SourceOf.l1 : Nat → List (S58) → List (S124) → List Int → List Bool → Int → List Int → Int → Int → Option (List Int × Int × Int × Int)
 | 0, _, _, _, _, _, _, _, _ => none
 | k + 1, x0, x1, x2, x9, x11, x233000, x233001, x233002 => if x11 < (x2.length : Int) then (if 0 ≤ x11 then (if 0 ≤ (rd x2 x11) then (if (rd x2 x11) < (x0.length : Int) then (if x11 < (x1.length : Int) then ((spec_l23Has.f k ((rd_T58 x0 (rd x2 x11)).f0) ((rd_T58 x0 (rd x2 x11)).f1) ((rd_T58 x0 (rd x2 x11)).f2) ((rd_T124 x1 x11).f0) ((rd_T124 x1 x11).f1)).bind fun t241 => (if t241 = true then (if x233000.length < 17592186044416 then ((some (x233000 ++ [rd x2 x11] : List Int)).bind fun y243 => (if (rd x2 x11) < (x9.length : Int) then (if (rdOf false x9 (rd x2 x11) = true) then (spec_SourceOf.l1 k x0 x1 x2 x9 (wrap64 (x11 + 1)) y243 x233001 x233002) else (spec_SourceOf.l1 k x0 x1 x2 (x9.set ((rd x2 x11) : Int).toNat true) (wrap64 (x11 + 1)) y243 (wrap64 (x233001 + 1)) (wrap64 (x233002 + ((rd_T58 x0 (rd x2 x11)).f1))))) else (none))) else (none)) else (some (([] : List Int), 0, 0, 19)))) else (none)) else (none)) else (none)) else (none)) else (some (x233000, x233001, x233002, 0))
end
def spec_SourceOf.f (k : Nat) (l0 : List (S58)) (l1 : List (S124)) (l2 : List Int) : Option (List Int × Int × Int × Int) := if (l0.length : Int) > 4096 then (spec_SourceOf.j0 k l0 l1 l2 true) else (if (l1.length : Int) > 4096 then (spec_SourceOf.j0 k l0 l1 l2 true) else (spec_SourceOf.j0 k l0 l1 l2 (decide ((l2.length : Int) > 4096))))
theorem spec_SourceOf.mono_l : ∀ k, (∀ y0 y1 y2 y3, LeO (spec_SourceOf.j0 k y0 y1 y2 y3) (spec_SourceOf.j0 (k + 1) y0 y1 y2 y3)) ∧ (∀ y0 y1 y2 y3 y4 y5 y6, LeO (spec_SourceOf.l0 k y0 y1 y2 y3 y4 y5 y6) (spec_SourceOf.l0 (k + 1) y0 y1 y2 y3 y4 y5 y6)) ∧ (∀ y0 y1 y2 y3 y4 y5 y6 y7, LeO (spec_SourceOf.l1 k y0 y1 y2 y3 y4 y5 y6 y7) (spec_SourceOf.l1 (k + 1) y0 y1 y2 y3 y4 y5 y6 y7))
 | 0 => ⟨fun _ _ _ _ r h => by simp [spec_SourceOf.j0] at h, fun _ _ _ _ _ _ _ r h => by simp [spec_SourceOf.l0] at h, fun _ _ _ _ _ _ _ _ r h => by simp [spec_SourceOf.l1] at h⟩
 | k + 1 => by
  obtain ⟨ih0, ih1, ih2⟩ := spec_SourceOf.mono_l k
  refine ⟨?_, ?_, ?_⟩
  ·intro y0 y1 y2 y3
   unfold spec_SourceOf.j0
   repeat' first
   | (with_reducible exact ih0 _ _ _ _)
   | (with_reducible exact ih1 _ _ _ _ _ _ _)
   | (with_reducible exact ih2 _ _ _ _ _ _ _ _)
   | (with_reducible exact spec_SourcesOK.mono _ _ _)
   | (with_reducible exact spec_l23Has.mono _ _ _ _ _ _)
   | (with_reducible exact LeO.refl _)
   | (with_reducible exact LeO.none _)
   | (with_reducible refine LeO.ite ?_ ?_)
   | (with_reducible refine LeO.bind ?_ (fun _ => ?_))
   | exact ih0 _ _ _ _
   | exact ih1 _ _ _ _ _ _ _
   | exact ih2 _ _ _ _ _ _ _ _
   | exact spec_SourcesOK.mono _ _ _
   | exact spec_l23Has.mono _ _ _ _ _ _
   | exact LeO.none _
   | refine LeO.ite ?_ ?_
   | refine LeO.bind ?_ (fun _ => ?_)
  ·intro y0 y1 y2 y3 y4 y5 y6
   unfold spec_SourceOf.l0
   repeat' first
   | (with_reducible exact ih0 _ _ _ _)
   | (with_reducible exact ih1 _ _ _ _ _ _ _)
   | (with_reducible exact ih2 _ _ _ _ _ _ _ _)
   | (with_reducible exact spec_SourcesOK.mono _ _ _)
   | (with_reducible exact spec_l23Has.mono _ _ _ _ _ _)
   | (with_reducible exact LeO.refl _)
   | (with_reducible exact LeO.none _)
   | (with_reducible refine LeO.ite ?_ ?_)
   | (with_reducible refine LeO.bind ?_ (fun _ => ?_))
   | exact ih0 _ _ _ _
   | exact ih1 _ _ _ _ _ _ _
   | exact ih2 _ _ _ _ _ _ _ _
   | exact spec_SourcesOK.mono _ _ _
   | exact spec_l23Has.mono _ _ _ _ _ _
   | exact LeO.none _
   | refine LeO.ite ?_ ?_
   | refine LeO.bind ?_ (fun _ => ?_)
  ·intro y0 y1 y2 y3 y4 y5 y6 y7
   unfold spec_SourceOf.l1
   repeat' first
   | (with_reducible exact ih0 _ _ _ _)
   | (with_reducible exact ih1 _ _ _ _ _ _ _)
   | (with_reducible exact ih2 _ _ _ _ _ _ _ _)
   | (with_reducible exact spec_SourcesOK.mono _ _ _)
   | (with_reducible exact spec_l23Has.mono _ _ _ _ _ _)
   | (with_reducible exact LeO.refl _)
   | (with_reducible exact LeO.none _)
   | (with_reducible refine LeO.ite ?_ ?_)
   | (with_reducible refine LeO.bind ?_ (fun _ => ?_))
   | exact ih0 _ _ _ _
   | exact ih1 _ _ _ _ _ _ _
   | exact ih2 _ _ _ _ _ _ _ _
   | exact spec_SourcesOK.mono _ _ _
   | exact spec_l23Has.mono _ _ _ _ _ _
   | exact LeO.none _
   | refine LeO.ite ?_ ?_
   | refine LeO.bind ?_ (fun _ => ?_)
theorem spec_SourceOf.mono : ∀ a0 a1 a2 k, LeO (spec_SourceOf.f k a0 a1 a2) (spec_SourceOf.f (k + 1) a0 a1 a2) := by
 intro a0 a1 a2 k
 obtain ⟨ih0, ih1, ih2⟩ := spec_SourceOf.mono_l k
 unfold spec_SourceOf.f
 repeat' first
   | (with_reducible exact ih0 _ _ _ _)
   | (with_reducible exact ih1 _ _ _ _ _ _ _)
   | (with_reducible exact ih2 _ _ _ _ _ _ _ _)
   | (with_reducible exact spec_SourcesOK.mono _ _ _)
   | (with_reducible exact spec_l23Has.mono _ _ _ _ _ _)
   | (with_reducible exact LeO.refl _)
   | (with_reducible exact LeO.none _)
   | (with_reducible refine LeO.ite ?_ ?_)
   | (with_reducible refine LeO.bind ?_ (fun _ => ?_))
   | exact ih0 _ _ _ _
   | exact ih1 _ _ _ _ _ _ _
   | exact ih2 _ _ _ _ _ _ _ _
   | exact spec_SourcesOK.mono _ _ _
   | exact spec_l23Has.mono _ _ _ _ _ _
   | exact LeO.none _
   | refine LeO.ite ?_ ?_
   | refine LeO.bind ?_ (fun _ => ?_)
def spec_SourceOf.T17 : Bool × List (List Nat × List Nat) := (true, [([], []), ([], []), ([], []), ([1, 2], [1, 2]), ([3], [3]), ([0, 4], [0, 4]), ([5], [5]), ([], []), ([], []), ([7, 8], [7, 8]), ([9], [9]), ([6, 10], [6, 10]), ([11], [11])])
def spec_SourceOf.B17 : List Nat := [0, 0, 0, 6, 14, 31, 63, 0, 0, 384, 896, 2047, 4095]
theorem spec_SourceOf.tab17 : rtab .any (opsOf Try.f135 17) = spec_SourceOf.T17 := by kernel_rfl
theorem spec_SourceOf.bits17 : waitsOk spec_SourceOf.T17.2 spec_SourceOf.B17 = true := by kernel_rfl
def spec_SourceOf.T19 : Bool × List (List Nat × List Nat) := (true, [([], []), ([0], [0]), ([], []), ([], []), ([2, 3], [2, 3]), ([4], [4]), ([5], [5]), ([1, 6], [1, 6]), ([0, 1, 2, 3, 4, 5, 6, 7], []), ([8, 7, 7, 0, 1, 2, 3, 4, 5, 6, 7], [7, 8])])
def spec_SourceOf.B19 : List Nat := [0, 1, 0, 0, 12, 28, 60, 127, 255, 511]
theorem spec_SourceOf.tab19 : rtab .any (opsOf Try.f135 19) = spec_SourceOf.T19 := by kernel_rfl
theorem spec_SourceOf.bits19 : waitsOk spec_SourceOf.T19.2 spec_SourceOf.B19 = true := by kernel_rfl
def spec_SourceOf.T23 : Bool × List (List Nat × List Nat) := (true, [([], []), ([0], [0]), ([], []), ([], []), ([], []), ([3, 4], [3, 4]), ([5], [5]), ([2, 6], [2, 6]), ([7], [7]), ([8], [8]), ([1, 9], [1, 9]), ([0, 1, 2, 3, 4, 5, 6, 7, 8, 9, 10], []), ([11, 10, 0, 1, 2, 3, 4, 5, 6, 7, 8, 9, 10], [10, 11])])
def spec_SourceOf.B23 : List Nat := [0, 1, 0, 0, 0, 24, 56, 124, 252, 508, 1023, 2047, 4095]
theorem spec_SourceOf.tab23 : rtab .any (opsOf Try.f135 23) = spec_SourceOf.T23 := by kernel_rfl
theorem spec_SourceOf.bits23 : waitsOk spec_SourceOf.T23.2 spec_SourceOf.B23 = true := by kernel_rfl
set_option maxHeartbeats 64000000 in
set_option maxRecDepth 100000 in
theorem spec_SourceOf.calls (k : Nat) (A0 : Option Addr) (c0 : Nat) (l0 : List (S58)) (A1 : Option Addr) (c1 : Nat) (l1 : List (S124)) (A2 : Option Addr) (c2 : Nat) (l2 : List Int) (r1 : List Int) (r2 : Int) (r3 : Int) (r4 : Int) (w : World) (hr0 : Kd.C k58 w A0 l0.length l0) (hc0 : l0.length ≤ c0) (hr1 : Kd.C k124 w A1 l1.length l1) (hc1 : l1.length ≤ c1) (hr2 : Kd.C (Kd.int .i64) w A2 l2.length l2) (hc2 : l2.length ≤ c2) (h : spec_SourceOf.f k l0 l1 l2 = some (r1, r2, r3, r4)) :
  Calls Try.prog 135 #[.slice A0 l0.length c0, .slice A1 l1.length c1, .slice A2 l2.length c2] w fun e w' => ∃ v0_ : Value, e = .returned (.tuple #[.agg #[v0_, .int .i64 r2, .int .i64 r3], .int .i64 r4]) ∧ Kd.R (Kd.int .i64) 3 w' w.heap.size (fun _ => True) v0_ r1 ∧ Below w.heap.size w w' := by
 have hu52 := Try.underlying52
 have hu58 := Try.underlying58
 have hu124 := Try.underlying124
 obtain ⟨HR0, HC0, HR1, HC1, HR2, HC2, HB⟩ := zD7 hr0 hc0 hr1 hc1 hr2 hc2 (Below.refl w.heap.size w)
 clear hr0 hc0 hr1 hc1 hr2 hc2
 have H : (if (l0.length : Int) > 4096 then (spec_SourceOf.j0 k l0 l1 l2 true) else (if (l1.length : Int) > 4096 then (spec_SourceOf.j0 k l0 l1 l2 true) else (spec_SourceOf.j0 k l0 l1 l2 (decide ((l2.length : Int) > 4096))))) = some (r1, r2, r3, r4) := h
 clear h
 have HC4 := za H
 clear H
 go_enter Try.func135, Try.ntmps135
 go_upto_region 1 with (first | ((with_reducible refine gate_dst (N := 6) rfl ?_); (try (refine gate_guard (by rfl) ?_; dsimp only)); refine box_event ?hg (N := 6) ?hd (cs := #[.slice none 0 0, .int .i64 0, .int .i64 0]) (t := 52) ?hr ?_; (case hd => rfl); (case hg => rfl); (case hr => exact zH124); intro gb230 hg w5 hbox hb; have n_ := zA_ (za (zq zG85 hb)) (zA_ (za (hbox)) (zA_ (zN1 w.heap.size hg (zp zG85)) (zN1 w.heap.size hg (zp zG85)))); clear HB; obtain ⟨HB, BK230, GW230, GE230⟩ := n_; clear hb hbox hg))
 (try simp only [Act.put, List.setIfInBounds_toArray, List.set_cons_zero, List.set_cons_succ])
 go_cut [24] (fun v24 wc => ∃ (kq : Nat) (x24_3 : Bool), v24 = .bool x24_3 ∧ Aside0 (spec_SourceOf.j0 kq l0 l1 l2 x24_3 = some (r1, r2, r3, r4)) ∧ Aside0 (kq ≤ k) ∧ Aside0 (wc.heap[gb230]? = some (.cells #[(.slice none 0 0), .int .i64 0, .int .i64 0] 52 (0, 0))) ∧ Aside0 (Below w.heap.size w wc))
 case first =>
  have H := HC4.out
  clear HC4
  by_cases c6 : (l0.length : Int) > 4096
  ·rw [if_pos c6] at H
   have c6b0 : decide (4096 < (l0.length : Int)) = true := decide_eq_true c6
   have c6b1 : decide (4096 < l0.length) = true := decide_eq_true (by omega)
   clear c6
   (first | rw [c6b0] | (simp only [i64_w, i32_w]; rw [c6b0]) | skip)
   have H' := za H
   clear H
   go_wp2
   go_meet
   case rel => exact ⟨_, (true), zG105, H', ⟨zH125⟩, ⟨zH106⟩, ⟨zH85⟩⟩
  rw [if_neg c6] at H
  have c6b0 : decide (4096 < (l0.length : Int)) = false := decide_eq_false c6
  have c6b1 : decide (4096 < l0.length) = false := decide_eq_false (by omega)
  clear c6
  (first | rw [c6b0] | (simp only [i64_w, i32_w]; rw [c6b0]) | skip)
  by_cases c7 : (l1.length : Int) > 4096
  rotate_left
  ·rw [if_neg c7] at H
   have c7b0 : decide (4096 < (l1.length : Int)) = false := decide_eq_false c7
   have c7b1 : decide (4096 < l1.length) = false := decide_eq_false (by omega)
   clear c7
   have H' := za H
   clear H
   go_wp2
   go_meet
   case rel => exact ⟨_, (decide ((l2.length : Int) > 4096)), zG105, H', ⟨zH125⟩, ⟨zH106⟩, ⟨zH85⟩⟩
  rw [if_pos c7] at H
  have c7b0 : decide (4096 < (l1.length : Int)) = true := decide_eq_true c7
  have c7b1 : decide (4096 < l1.length) = true := decide_eq_true (by omega)
  clear c7
  have H' := za H
  clear H
  go_wp2
  go_meet
  case rel => exact ⟨_, (true), zG105, H', ⟨zH125⟩, ⟨zH106⟩, ⟨zH85⟩⟩
 case rest =>
  clear HC4
  try clear c1
  try clear c2
  try clear c6
  try clear c6b0
  try clear c6b1
  try clear c7
  try clear c7b0
  try clear c7b1
  obtain ⟨kq, x24_3, rfl, HA, HJ3, BK230, HB⟩ := hcut
  cases kq with
  | zero => exact absurd HA.out (by simp [spec_SourceOf.j0])
  | succ kj3 =>
   have H := HA.out
   clear HA
   simp only [spec_SourceOf.j0] at H
   by_cases c8 : x24_3 = true
   ·subst c8
    have H1 : (some (([] : List Int), 0, 0, 2)) = some (r1, r2, r3, r4) := by rw [if_pos rfl] at H; exact H
    clear H
    have H := H1
    clear H1
    simp only [Option.some.injEq, Prod.mk.injEq] at H
    obtain ⟨rfl, rfl, rfl, rfl⟩ := H
    obtain ⟨hcz9_0, hcz9_1, hcz9_2, hfz9_0, hfz9_1, hfz9_2⟩ := zB3 BK230.out
    go_wp2
    refine bodyPost_ret (results_ct rfl _ _ gb230 52 #[.slice none 0 0, .int .i64 0, .int .i64 0] (0, 0) _ rfl zK136 Try.underlying52 rfl zG106) rfl ?_
    exact zH13
   replace c8 := Bool.eq_false_iff.mpr c8
   subst c8
   have H1 : ((spec_SourcesOK.f kj3 l0 l1).bind fun t231 => (if t231 = true then (if (l2.length : Int) = (l1.length : Int) then (if 0 ≤ (l0.length : Int) then (if ((l0.length : Int) : Int).toNat ≤ 281474976710656 then (spec_SourceOf.l0 kj3 l0 l1 l2 (List.replicate ((l0.length : Int) : Int).toNat false) 0 0 0) else (none)) else (none)) else (some (([] : List Int), 0, 0, 3))) else (some (([] : List Int), 0, 0, 1)))) = some (r1, r2, r3, r4) := by rw [if_neg (show ¬ (false = true) by decide)] at H; exact H
   clear H
   have H := H1
   clear H1
   replace H := Option.bind_eq_some_iff.mp H
   obtain ⟨t231, A100, H⟩ := H
   replace H : (if t231 = true then (if (l2.length : Int) = (l1.length : Int) then (if 0 ≤ (l0.length : Int) then (if ((l0.length : Int) : Int).toNat ≤ 281474976710656 then (spec_SourceOf.l0 kj3 l0 l1 l2 (List.replicate ((l0.length : Int) : Int).toNat false) 0 0 0) else (none)) else (none)) else (some (([] : List Int), 0, 0, 3))) else (some (([] : List Int), 0, 0, 1))) = some (r1, r2, r3, r4) := H
   have A10 := za A100
   clear A100
   by_cases c11 : t231 = true
   rotate_left
   ·replace c11 := Bool.eq_false_iff.mpr c11
    subst c11
    have H1 : (some (([] : List Int), 0, 0, 1)) = some (r1, r2, r3, r4) := by rw [if_neg (show ¬ (false = true) by decide)] at H; exact H
    clear H
    have H := H1
    clear H1
    simp only [Option.some.injEq, Prod.mk.injEq] at H
    obtain ⟨rfl, rfl, rfl, rfl⟩ := H
    go_wp2_with (first | ((with_reducible refine gate_callee (f := 90) rfl ?_); refine goesL_ (some 28) rfl rfl Try.func90 zG106 rfl #[.slice A0 l0.length c0, .slice A1 l1.length c1] rfl zG80 ?_; (with_reducible refine (spec_SourcesOK.calls kj3 _ _ l0 _ _ l1 false _ ?side1 ?side2 ?side3 ?side4 A10.out).mono ?_); (case side1 => exact zH75); (case side2 => exact zH128); (case side3 => exact zH76); (case side4 => exact zH129); rintro e w73 ⟨rfl, hb⟩; refine ⟨_, rfl, ?_⟩; have n_ := zA_ (za (zo (g := gb230) (o := .cells #[.slice none 0 0, .int .i64 0, .int .i64 0] 52 (0, 0)) zG94 hb)) (za (zq zK204 hb)); clear BK230 HB; obtain ⟨BK230, HB⟩ := n_; (try clear hb); obtain ⟨hcz74_0, hcz74_1, hcz74_2, hfz74_0, hfz74_1, hfz74_2⟩ := zB3 BK230.out))
    refine bodyPost_ret (results_ct rfl _ _ gb230 52 #[.slice none 0 0, .int .i64 0, .int .i64 0] (0, 0) _ rfl zK136 Try.underlying52 rfl zG106) rfl ?_
    exact zH13

   subst c11
   have H1 : (if (l2.length : Int) = (l1.length : Int) then (if 0 ≤ (l0.length : Int) then (if ((l0.length : Int) : Int).toNat ≤ 281474976710656 then (spec_SourceOf.l0 kj3 l0 l1 l2 (List.replicate ((l0.length : Int) : Int).toNat false) 0 0 0) else (none)) else (none)) else (some (([] : List Int), 0, 0, 3))) = some (r1, r2, r3, r4) := by rw [if_pos rfl] at H; exact H
   clear H
   have H := H1
   clear H1
   by_cases c12 : (l2.length : Int) = (l1.length : Int)
   rotate_left
   ·rw [if_neg c12] at H
    have c12b0 : ((l2.length : Int) == (l1.length : Int)) = false := beq_eq_false_iff_ne.mpr c12
    have c12b1 : ((l2.length : Int) != (l1.length : Int)) = true := bne_iff_ne.mpr c12
    have c12b2 : (l2.length == l1.length) = false := by first | simpa using c12 | (simp at c12 ⊢; omega)
    simp only [Option.some.injEq, Prod.mk.injEq] at H
    obtain ⟨rfl, rfl, rfl, rfl⟩ := H
    go_wp2_with (first | ((with_reducible refine gate_callee (f := 90) rfl ?_); refine goesL_ (some 28) rfl rfl Try.func90 zG106 rfl #[.slice A0 l0.length c0, .slice A1 l1.length c1] rfl zG80 ?_; (with_reducible refine (spec_SourcesOK.calls kj3 _ _ l0 _ _ l1 true _ ?side1 ?side2 ?side3 ?side4 A10.out).mono ?_); (case side1 => exact zH75); (case side2 => exact zH128); (case side3 => exact zH76); (case side4 => exact zH129); rintro e w71 ⟨rfl, hb⟩; refine ⟨_, rfl, ?_⟩; have n_ := zA_ (za (zo (g := gb230) (o := .cells #[.slice none 0 0, .int .i64 0, .int .i64 0] 52 (0, 0)) zG94 hb)) (za (zq zK204 hb)); clear BK230 HB; obtain ⟨BK230, HB⟩ := n_; (try clear hb); obtain ⟨hcz72_0, hcz72_1, hcz72_2, hfz72_0, hfz72_1, hfz72_2⟩ := zB3 BK230.out))
    refine bodyPost_ret (results_ct rfl _ _ gb230 52 #[.slice none 0 0, .int .i64 0, .int .i64 0] (0, 0) _ rfl zK136 Try.underlying52 rfl zG106) rfl ?_
    exact zH13
   rw [if_pos c12] at H
   have c12b0 : ((l2.length : Int) == (l1.length : Int)) = true := beq_iff_eq.mpr c12
   have c12b1 : ((l2.length : Int) != (l1.length : Int)) = false := bne_eq_false_iff_eq.mpr c12
   have c12b2 : (l2.length == l1.length) = true := by first | simpa using c12 | (simp at c12 ⊢; omega)
   clear c12
   by_cases c13 : 0 ≤ (l0.length : Int)
   rotate_left
   ·rw [if_neg c13] at H
    exact absurd H (by simp)
   rw [if_pos c13] at H
   have c13b0 := eq_true c13
   have c13b1 := decide_eq_true c13
   clear c13
   by_cases c14 : ((l0.length : Int) : Int).toNat ≤ 281474976710656
   rotate_left
   ·rw [if_neg c14] at H
    exact absurd H (by simp)
   rw [if_pos c14] at H
   have c14b0 := eq_true c14
   have c14b1 := decide_eq_true c14
   clear c14
   obtain ⟨y233, hy233⟩ : ∃ y_ : List Bool, y_ = (List.replicate ((l0.length : Int) : Int).toNat false) := ⟨_, rfl⟩
   replace H : (spec_SourceOf.l0 kj3 l0 l1 l2 y233 0 0 0) = some (r1, r2, r3, r4) := by first | (rw [hy233]; with_reducible exact H) | (have H2_ := (Option.bind_some _ _).symm.trans H; rw [hy233]; with_reducible exact H2_) | (have H2_ := (Option.bind_some _ _).symm.trans H; with_reducible exact H2_) | with_reducible exact H | (rw [hy233]; exact H) | exact H
   have Ny233 := za hy233
   clear hy233
   have H' := za H
   clear H
   go_wp2_with (first | ((with_reducible refine gate_callee (f := 90) rfl ?_); refine goesL_ (some 28) rfl rfl Try.func90 zG106 rfl #[.slice A0 l0.length c0, .slice A1 l1.length c1] rfl zG80 ?_; (with_reducible refine (spec_SourcesOK.calls kj3 _ _ l0 _ _ l1 true _ ?side1 ?side2 ?side3 ?side4 A10.out).mono ?_); (case side1 => exact zH75); (case side2 => exact zH128); (case side3 => exact zH76); (case side4 => exact zH129); rintro e w15 ⟨rfl, hb⟩; refine ⟨_, rfl, ?_⟩; have n_ := zA_ (za (zo (g := gb230) (o := .cells #[.slice none 0 0, .int .i64 0, .int .i64 0] 52 (0, 0)) zG94 hb)) (za (zq zK204 hb)); clear BK230 HB; obtain ⟨BK230, HB⟩ := n_; (try clear hb); (try clear hk)) | ((with_reducible refine gate_dst (N := 8) rfl ?_); (try (refine gate_guard (by rfl) ?_; dsimp only)); refine box_event ?hg (N := 8) ?hd (cs := #[.slice none 0 0, .int .i64 0, .int .i64 0]) (t := 52) ?hr ?_; (case hd => rfl); (case hg => rfl); (case hr => exact zH124); intro gb232 hg w16 hbox hb; have n_ := zA_ (za (zo (g := gb230) (o := .cells #[.slice none 0 0, .int .i64 0, .int .i64 0] 52 (0, 0)) zG94 hb)) (zA_ (za (zq zK204 hb)) (zA_ (za (hbox)) (zA_ (zN1 w.heap.size hg (zp zK204)) (zA_ (zN1 w.heap.size hg (zp zK204)) (zN2 hg (zz (g := gb230) (o := .cells #[.slice none 0 0, .int .i64 0, .int .i64 0] 52 (0, 0)) zG94)))))); clear BK230 HB; obtain ⟨BK230, HB, BK232, GW232, GE232, NB230_232, NB232_230⟩ := n_; clear hb hbox hg; have hnb17 := NB232_230.out; have hnc17 := NB230_232.out; obtain ⟨hcz18_0, hcz18_1, hcz18_2, hfz18_0, hfz18_1, hfz18_2⟩ := zB3 BK232.out) | ((with_reducible refine gate_dst (N := 40) rfl ?_); (try (refine gate_guard (by rfl) ?_; dsimp only)); refine Kd.R_make Kd.bool _ 4 rfl (N := 40) rfl 185 _ _ rfl (l0.length : Int) rfl rfl Try.underlying185 (.bool false) 1 info4 rfl zG107 (by omega) false (ok := fun _ => True) (okp := fun _ => True) rfl (fun _ hk => hk) trivial zO (Nat.le_trans (Nat.mul_le_mul_right _ (zO : (l0.length : Int).toNat ≤ 281474976710656)) (by omega)) (Below.refl _ _) (Nat.le_refl _) ?_; intro v234 w19 ho20 hb hg_ hnew_; clear hg_ hnew_; (first | rw [← Ny233.out] at ho20 | (simp only [Int.reduceToNat] at ho20; rw [← Ny233.out] at ho20)); have n_ := zA_ (za (zah ho20 (zp zG78))) (zA_ (za (zo (g := gb230) (o := .cells #[.slice none 0 0, .int .i64 0, .int .i64 0] 52 (0, 0)) (by (with_reducible repeat (first | refine zc ?_ _ | refine ze ?_ | refine zb ?_ _)); refine zs ?_ NB230_232.out _; (with_reducible repeat (first | refine zc ?_ _ | refine ze ?_ | refine zb ?_ _)); refine zs ?_ NB230_232.out _; (with_reducible repeat (first | refine zc ?_ _ | refine ze ?_ | refine zb ?_ _)); refine zs ?_ NB230_232.out _; (with_reducible repeat (first | refine zc ?_ _ | refine ze ?_ | refine zb ?_ _)); exact BK230.out) hb)) (zA_ (za (zo (g := gb232) (o := .cells #[.slice none 0 0, .int .i64 0, .int .i64 0] 52 (0, 0)) (by (with_reducible repeat (first | refine zc ?_ _ | refine ze ?_ | refine zb ?_ _)); refine zw (cs := #[.slice none 0 0, .int .i64 0, .int .i64 0]) ?_ 2 _ rfl; (with_reducible repeat (first | refine zc ?_ _ | refine ze ?_ | refine zb ?_ _)); refine zw (cs := #[.slice none 0 0, .int .i64 0, .int .i64 0]) ?_ 1 _ rfl; (with_reducible repeat (first | refine zc ?_ _ | refine ze ?_ | refine zb ?_ _)); refine zw (cs := #[.slice none 0 0, .int .i64 0, .int .i64 0]) ?_ 0 _ rfl; (with_reducible repeat (first | refine zc ?_ _ | refine ze ?_ | refine zb ?_ _)); exact BK232.out) hb)) (za (zq zG78 hb)))); clear BK230 BK232 HB; obtain ⟨HO235, BK230, BK232, HB⟩ := n_; clear hb ho20))
   go_loopg [10] kj3 (fun kq v10 w' => ∃ (x10_2 : Int) (x231001_2 : Int) (x231002_2 : Int), v10 = .int .i64 x10_2 ∧ Aside0 (spec_SourceOf.l0 kq l0 l1 l2 y233 x10_2 0 0 = some (r1, r2, r3, r4)) ∧ Aside0 (kq ≤ kj3) ∧ Aside0 (Kd.R Kd.bool 4 w' w.heap.size (fun _ => True) v234 y233) ∧ Aside0 (w'.heap[gb230]? = some (.cells #[(.slice none 0 0), .int .i64 x231001_2, .int .i64 x231002_2] 52 (0, 0))) ∧ Aside0 (w'.heap[gb232]? = some (.cells #[(.slice none 0 0), .int .i64 0, .int .i64 0] 52 (0, 0))) ∧ Aside0 (Below w.heap.size w w'))
   case atStart => exact ⟨(0), (0), (0), zG105, H', ⟨Nat.le_refl _⟩, ⟨by (with_reducible repeat (first | apply zl | apply zm | apply zn)); exact HO235.out⟩, ⟨zH106⟩, ⟨zH105⟩, ⟨zH54⟩⟩
   case round =>
    clear H'
    try clear c1
    try clear c2
    try clear c6
    try clear c6b0
    try clear c6b1
    try clear c7
    try clear c7b0
    try clear c7b1
    try clear c8
    try clear c11
    try clear c12
    try clear c12b0
    try clear c12b1
    try clear c12b2
    try clear c13
    try clear c13b0
    try clear c13b1
    try clear c14
    try clear c14b0
    try clear c14b1
    try clear hcz18_0
    try clear hcz18_1
    try clear hcz18_2
    try clear hcz9_0
    try clear hcz9_1
    try clear hcz9_2
    try clear hfz18_0
    try clear hfz18_1
    try clear hfz18_2
    try clear hfz9_0
    try clear hfz9_1
    try clear hfz9_2
    obtain ⟨x10_2, x231001_2, x231002_2, rfl, HA, HK2, HO_9, BK230, BK232, HB⟩ := hrel
    cases gk with
    | zero => exact absurd HA.out (by simp [spec_SourceOf.l0])
    | succ k2 =>
     have H := HA.out
     clear HA
     simp only [spec_SourceOf.l0] at H
     by_cases c21 : x10_2 < (l2.length : Int)
     ·rw [if_pos c21] at H
      have c21b0 := decide_eq_true c21
      clear c21
      by_cases c22 : 0 ≤ x10_2
      rotate_left
      ·rw [if_neg c22] at H
       exact absurd H (by simp)
      rw [if_pos c22] at H
      have c22b0 := decide_eq_true c22
      clear c22
      replace H := Option.bind_eq_some_iff.mp H
      obtain ⟨t237, A230, H⟩ := H
      replace H : (if t237 = true then (spec_SourceOf.l0 k2 l0 l1 l2 y233 (wrap64 (x10_2 + 1)) 0 0) else (some (([] : List Int), 0, 0, 3))) = some (r1, r2, r3, r4) := H
      have A23 := za A230
      clear A230
      by_cases c24 : t237 = true
      rotate_left
      ·replace c24 := Bool.eq_false_iff.mpr c24
       subst c24
       have H1 : (some (([] : List Int), 0, 0, 3)) = some (r1, r2, r3, r4) := by rw [if_neg (show ¬ (false = true) by decide)] at H; exact H
       clear H
       have H := H1
       clear H1
       simp only [Option.some.injEq, Prod.mk.injEq] at H
       obtain ⟨rfl, rfl, rfl, rfl⟩ := H
       have p236 : 0 ≤ (x10_2 : Int) := zO
       have q236 : x10_2 < (l2.length : Int) := zO
       obtain ⟨ad236, e236, hx236_0⟩ := zao HR2.out x10_2 p236 q236
       cases e236
       replace hx236_0 := (HB.out.cell (zj w _ hx236_0)).trans hx236_0
       replace p236 := eq_true p236
       replace q236 := eq_true q236
       go_wp2_with (first | ((with_reducible refine gate_callee (f := 122) rfl ?_); refine goesL_ (some 54) rfl rfl Try.func122 zG106 rfl #[.int .i64 (rd l2 x10_2), .int .i64 0, .int .i64 (wrap64 ((l0.length : Int) - 1))] rfl zG80 ?_; (with_reducible refine (spec_l01In.calls (rd l2 x10_2) 0 (wrap64 ((l0.length : Int) - 1)) false _ A23.out).mono ?_); rintro e w' ⟨rfl, ⟨nd, rfl⟩⟩; refine ⟨_, rfl, ?_⟩; (try (rw [drewN_self wr]; generalize hq_ : World.drewN wr _ = wr; have n0_ : Aside0 (Kd.R Kd.bool 4 wr w.heap.size (fun _ => True) v234 y233) := ⟨by rw [← hq_]; exact zG104⟩; have n1_ : Aside0 (wr.heap[gb230]? = some (.cells #[.slice none 0 0, .int .i64 x231001_2, .int .i64 x231002_2] 52 (0, 0))) := ⟨by rw [← hq_]; exact zG94⟩; have n2_ : Aside0 (wr.heap[gb232]? = some (.cells #[.slice none 0 0, .int .i64 0, .int .i64 0] 52 (0, 0))) := ⟨by rw [← hq_]; exact zK224⟩; have n3_ : Aside0 (Below w.heap.size w wr) := ⟨by rw [← hq_]; exact zG78⟩; clear HO_9 BK230 BK232 HB hq_; have HO_9 := n0_; have BK230 := n1_; have BK232 := n2_; have HB := n3_; clear n0_ n1_ n2_ n3_)); (try have hcu25_0 : wr.cell? ⟨gb230, 0, none⟩ = some (.slice none 0 0) := (zi BK230.out 0).trans rfl); (try have hcu25_1 : wr.cell? ⟨gb230, 1, none⟩ = some (.int .i64 x231001_2) := (zi BK230.out 1).trans rfl); (try have hcu25_2 : wr.cell? ⟨gb230, 2, none⟩ = some (.int .i64 x231002_2) := (zi BK230.out 2).trans rfl); (try have hfcu25_0 := zk BK230.out 0); (try have hfcu25_1 := zk BK230.out 1); (try have hfcu25_2 := zk BK230.out 2); (try have hcu26_0 : wr.cell? ⟨gb232, 0, none⟩ = some (.slice none 0 0) := (zi BK232.out 0).trans rfl); (try have hcu26_1 : wr.cell? ⟨gb232, 1, none⟩ = some (.int .i64 0) := (zi BK232.out 1).trans rfl); (try have hcu26_2 : wr.cell? ⟨gb232, 2, none⟩ = some (.int .i64 0) := (zi BK232.out 2).trans rfl); (try have hfcu26_0 := zk BK232.out 0); (try have hfcu26_1 := zk BK232.out 1); (try have hfcu26_2 := zk BK232.out 2); have hnb27 := NB230_232.out; have hnc27 := NB232_230.out; obtain ⟨hcz28_0, hcz28_1, hcz28_2, hfz28_0, hfz28_1, hfz28_2⟩ := zB3 BK230.out))
       refine bodyPost_ret (results_ct rfl _ _ gb230 52 #[.slice none 0 0, .int .i64 0, .int .i64 0] (0, 0) _ rfl (by (with_reducible repeat (first | refine zc ?_ _ | refine ze ?_ | refine zb ?_ _)); refine zw (cs := #[.slice none 0 0, .int .i64 0, .int .i64 x231002_2]) ?_ 2 _ rfl; (with_reducible repeat (first | refine zc ?_ _ | refine ze ?_ | refine zb ?_ _)); refine zw (cs := #[.slice none 0 0, .int .i64 x231001_2, .int .i64 x231002_2]) ?_ 1 _ rfl; (with_reducible repeat (first | refine zc ?_ _ | refine ze ?_ | refine zb ?_ _)); refine zw (cs := #[.slice none 0 0, .int .i64 x231001_2, .int .i64 x231002_2]) ?_ 0 _ rfl; (with_reducible repeat (first | refine zc ?_ _ | refine ze ?_ | refine zb ?_ _)); exact BK230.out) Try.underlying52 rfl zG106) rfl ?_
       exact zH11
      subst c24
      have H1 : (spec_SourceOf.l0 k2 l0 l1 l2 y233 (wrap64 (x10_2 + 1)) 0 0) = some (r1, r2, r3, r4) := by rw [if_pos rfl] at H; exact H
      clear H
      have H := H1
      clear H1
      have H' := za H
      clear H
      have p236 : 0 ≤ (x10_2 : Int) := zO
      have q236 : x10_2 < (l2.length : Int) := zO
      obtain ⟨ad236, e236, hx236_0⟩ := zao HR2.out x10_2 p236 q236
      cases e236
      replace hx236_0 := (HB.out.cell (zj w _ hx236_0)).trans hx236_0
      replace p236 := eq_true p236
      replace q236 := eq_true q236
      go_wp2_with (first | ((with_reducible refine gate_callee (f := 122) rfl ?_); refine goesL_ (some 54) rfl rfl Try.func122 zG106 rfl #[.int .i64 (rd l2 x10_2), .int .i64 0, .int .i64 (wrap64 ((l0.length : Int) - 1))] rfl zG80 ?_; (with_reducible refine (spec_l01In.calls (rd l2 x10_2) 0 (wrap64 ((l0.length : Int) - 1)) true _ A23.out).mono ?_); rintro e w' ⟨rfl, ⟨nd, rfl⟩⟩; refine ⟨_, rfl, ?_⟩))
      go_roundg k2
      case measure => have := HJ3.out; have := HK2.out; omega
      case rel => exact ⟨(wrap64 (x10_2 + 1)), (x231001_2), (x231002_2), zG105, H', ⟨by have := HJ3.out; have := HK2.out; omega⟩, ⟨by (with_reducible repeat (first | apply zl | apply zm | apply zn)); exact HO_9.out⟩, ⟨zH106⟩, ⟨zH105⟩, ⟨zH54⟩⟩
     rw [if_neg c21] at H
     have c21b0 := decide_eq_false c21
     clear c21
     have H' := za H
     clear H
     go_wp2
     go_loopg [11] k2 (fun kq v11 w' => ∃ (x9_3 : List Bool) (x11_3 : Int) (x231001_3 : Int) (x231002_3 : Int) (x233000_3 : List Int) (x233001_3 : Int) (x233002_3 : Int) (u233000 : Value), v11 = .int .i64 x11_3 ∧ Aside0 (spec_SourceOf.l1 kq l0 l1 l2 x9_3 x11_3 x233000_3 x233001_3 x233002_3 = some (r1, r2, r3, r4)) ∧ Aside0 (kq ≤ k2) ∧ Aside0 (Kd.R Kd.bool 4 w' w.heap.size (fun _ => True) v234 x9_3) ∧ Aside0 (Kd.R (Kd.int .i64) 3 w' w.heap.size (fun _ => True) u233000 x233000_3) ∧ Aside0 (w'.heap[gb230]? = some (.cells #[(.slice none 0 0), .int .i64 x231001_3, .int .i64 x231002_3] 52 (0, 0))) ∧ Aside0 (w'.heap[gb232]? = some (.cells #[u233000, .int .i64 x233001_3, .int .i64 x233002_3] 52 (0, 0))) ∧ Aside0 (Below w.heap.size w w'))
     case atStart => exact ⟨(y233), (0), (x231001_2), (x231002_2), (([] : List Int)), (0), (0), (.slice none 0 0), zG105, H', ⟨Nat.le_refl _⟩, ⟨by (with_reducible repeat (first | apply zl | apply zm | apply zn)); exact HO_9.out⟩, ⟨zH90⟩, ⟨zH106⟩, ⟨zH105⟩, ⟨zH54⟩⟩
     case round =>
      clear H'
      try clear c1
      try clear c2
      try clear c6
      try clear c6b0
      try clear c6b1
      try clear c7
      try clear c7b0
      try clear c7b1
      try clear c8
      try clear c11
      try clear c12
      try clear c12b0
      try clear c12b1
      try clear c12b2
      try clear c13
      try clear c13b0
      try clear c13b1
      try clear c14
      try clear c14b0
      try clear c14b1
      try clear c21
      try clear c21b0
      try clear c22
      try clear c22b0
      try clear c24
      try clear hcz18_0
      try clear hcz18_1
      try clear hcz18_2
      try clear hcz28_0
      try clear hcz28_1
      try clear hcz28_2
      try clear hcz9_0
      try clear hcz9_1
      try clear hcz9_2
      try clear hfz18_0
      try clear hfz18_1
      try clear hfz18_2
      try clear hfz28_0
      try clear hfz28_1
      try clear hfz28_2
      try clear hfz9_0
      try clear hfz9_1
      try clear hfz9_2
      try clear hx236_0
      try clear p236
      try clear q236
      obtain ⟨x9_3, x11_3, x231001_3, x231002_3, x233000_3, x233001_3, x233002_3, u233000, rfl, HA, HK3, HO_9, HO_233000, BK230, BK232, HB⟩ := hrel
      cases gk with
      | zero => exact absurd HA.out (by simp [spec_SourceOf.l1])
      | succ k3 =>
       have H := HA.out
       clear HA
       simp only [spec_SourceOf.l1] at H
       by_cases c29 : x11_3 < (l2.length : Int)
       rotate_left
       ·rw [if_neg c29] at H
        have c29b0 := decide_eq_false c29
        clear c29
        simp only [Option.some.injEq, Prod.mk.injEq] at H
        obtain ⟨rfl, rfl, rfl, rfl⟩ := H
        have hnb67 := NB232_230.out
        have hnc67 := NB230_232.out
        obtain ⟨hcz68_0, hcz68_1, hcz68_2, hfz68_0, hfz68_1, hfz68_2⟩ := zB3 BK232.out
        obtain ⟨Ao69, co69, eo69⟩ := zaf HO_233000.out
        subst eo69
        obtain ⟨hcz70_0, hcz70_1, hcz70_2, hfz70_0, hfz70_1, hfz70_2⟩ := zB3 BK230.out
        go_wp2
        refine bodyPost_ret (results_ct rfl _ _ gb230 52 #[.slice Ao69 x233000_3.length co69, .int .i64 x233001_3, .int .i64 x233002_3] (0, 0) _ rfl (by (with_reducible repeat (first | refine zc ?_ _ | refine ze ?_ | refine zb ?_ _)); refine zw (cs := #[.slice Ao69 x233000_3.length co69, .int .i64 x233001_3, .int .i64 x231002_3]) ?_ 2 _ rfl; (with_reducible repeat (first | refine zc ?_ _ | refine ze ?_ | refine zb ?_ _)); refine zw (cs := #[.slice Ao69 x233000_3.length co69, .int .i64 x231001_3, .int .i64 x231002_3]) ?_ 1 _ rfl; (with_reducible repeat (first | refine zc ?_ _ | refine ze ?_ | refine zb ?_ _)); refine zw (cs := #[.slice none 0 0, .int .i64 x231001_3, .int .i64 x231002_3]) ?_ 0 _ rfl; (with_reducible repeat (first | refine zc ?_ _ | refine ze ?_ | refine zb ?_ _)); exact BK230.out) Try.underlying52 rfl zG106) rfl ?_
        exact ⟨_, zH115, by (with_reducible repeat (first | apply zl | apply zm | apply zn)); exact zx (zr (p := ⟨gb230, 2, none⟩) (zr (p := ⟨gb230, 1, none⟩) (zr (p := ⟨gb230, 0, none⟩) (zaa HO_233000.out BK230.out zG107) (fun _ hk => hk.2) (.slice Ao69 x233000_3.length co69)) (fun _ hk => hk.2) (.int .i64 x233001_3)) (fun _ hk => hk.2) (.int .i64 x233002_3)) (fun _ hk => trivial), zH54⟩
       rw [if_pos c29] at H
       have c29b0 := decide_eq_true c29
       clear c29
       by_cases c30 : 0 ≤ x11_3
       rotate_left
       ·rw [if_neg c30] at H
        exact absurd H (by simp)
       rw [if_pos c30] at H
       have c30b0 := decide_eq_true c30
       clear c30
       by_cases c31 : 0 ≤ (rd l2 x11_3)
       rotate_left
       ·rw [if_neg c31] at H
        exact absurd H (by simp)
       rw [if_pos c31] at H
       have c31b0 := decide_eq_true c31
       clear c31
       by_cases c32 : (rd l2 x11_3) < (l0.length : Int)
       rotate_left
       ·rw [if_neg c32] at H
        exact absurd H (by simp)
       rw [if_pos c32] at H
       have c32b0 := decide_eq_true c32
       clear c32
       by_cases c33 : x11_3 < (l1.length : Int)
       rotate_left
       ·rw [if_neg c33] at H
        exact absurd H (by simp)
       rw [if_pos c33] at H
       have c33b0 := decide_eq_true c33
       clear c33
       replace H := Option.bind_eq_some_iff.mp H
       obtain ⟨t241, A340, H⟩ := H
       replace H : (if t241 = true then (if x233000_3.length < 17592186044416 then ((some (x233000_3 ++ [rd l2 x11_3] : List Int)).bind fun y243 => (if (rd l2 x11_3) < (x9_3.length : Int) then (if (rdOf false x9_3 (rd l2 x11_3) = true) then (spec_SourceOf.l1 k3 l0 l1 l2 x9_3 (wrap64 (x11_3 + 1)) y243 x233001_3 x233002_3) else (spec_SourceOf.l1 k3 l0 l1 l2 (x9_3.set ((rd l2 x11_3) : Int).toNat true) (wrap64 (x11_3 + 1)) y243 (wrap64 (x233001_3 + 1)) (wrap64 (x233002_3 + ((rd_T58 l0 (rd l2 x11_3)).f1))))) else (none))) else (none)) else (some (([] : List Int), 0, 0, 19))) = some (r1, r2, r3, r4) := H
       have A34 := za A340
       clear A340
       by_cases c35 : t241 = true
       rotate_left
       ·replace c35 := Bool.eq_false_iff.mpr c35
        subst c35
        have H1 : (some (([] : List Int), 0, 0, 19)) = some (r1, r2, r3, r4) := by rw [if_neg (show ¬ (false = true) by decide)] at H; exact H
        clear H
        have H := H1
        clear H1
        simp only [Option.some.injEq, Prod.mk.injEq] at H
        obtain ⟨rfl, rfl, rfl, rfl⟩ := H
        try go_wp2
        obtain ⟨n0_, n1_, n2_, n3_, n4_⟩ := zD5 (zn HO_9.out) (zn HO_233000.out) (ze BK230.out) (ze BK232.out) (zg HB.out)
        clear HO_9 HO_233000 BK230 BK232 HB
        have HO_9 := n0_
        have HO_233000 := n1_
        have BK230 := n2_
        have BK232 := n3_
        have HB := n4_
        clear n0_ n1_ n2_ n3_ n4_
        have p238 : 0 ≤ (x11_3 : Int) := zO
        have q238 : x11_3 < (l2.length : Int) := zO
        obtain ⟨ad238, e238, hx238_0⟩ := zao HR2.out x11_3 p238 q238
        have hw238_0 := hx238_0
        cases e238
        replace hx238_0 := (HB.out.cell (zj w _ hx238_0)).trans hx238_0
        replace p238 := eq_true p238
        replace q238 := eq_true q238
        have p239 : 0 ≤ ((rd l2 x11_3) : Int) := zO
        have q239 : (rd l2 x11_3) < (l0.length : Int) := zO
        obtain ⟨ad239, A239_2, c239_2, e239, hx239_0, hx239_1, hx239_2, hl239_2, hi239_2⟩ := at_T58 HR0.out (rd l2 x11_3) p239 q239
        have hw239_2 := hx239_2
        have hw239_1 := hx239_1
        have hw239_0 := hx239_0
        cases e239
        replace hx239_0 := (HB.out.cell (zj w _ hx239_0)).trans hx239_0
        replace hx239_1 := (HB.out.cell (zj w _ hx239_1)).trans hx239_1
        replace hx239_2 := (HB.out.cell (zj w _ hx239_2)).trans hx239_2
        obtain ⟨HR239_2, HC239_2⟩ := zD2 hi239_2 hl239_2
        clear hi239_2 hl239_2
        replace p239 := eq_true p239
        replace q239 := eq_true q239
        have p240 : 0 ≤ (x11_3 : Int) := zO
        have q240 : x11_3 < (l1.length : Int) := zO
        obtain ⟨ad240, e240, hx240_0, hx240_1⟩ := at_T124 HR1.out x11_3 p240 q240
        have hw240_1 := hx240_1
        have hw240_0 := hx240_0
        cases e240
        replace hx240_0 := (HB.out.cell (zj w _ hx240_0)).trans hx240_0
        replace hx240_1 := (HB.out.cell (zj w _ hx240_1)).trans hx240_1
        replace p240 := eq_true p240
        replace q240 := eq_true q240
        refine start_ (n := 13) (S := fun w' => w'.cell? (ad238.add (x11_3).toNat) = some (.int .i64 (rd l2 x11_3)) ∧ w'.cell? (ad239.add (((rd l2 x11_3)).toNat * 3)) = some (.string ((rd_T58 l0 (rd l2 x11_3)).f0)) ∧ w'.cell? ⟨(ad239.add (((rd l2 x11_3)).toNat * 3)).block, (ad239.add (((rd l2 x11_3)).toNat * 3)).off + 1, none⟩ = some (.int .i64 ((rd_T58 l0 (rd l2 x11_3)).f1)) ∧ w'.cell? ⟨(ad239.add (((rd l2 x11_3)).toNat * 3)).block, (ad239.add (((rd l2 x11_3)).toNat * 3)).off + 2, none⟩ = some (.slice A239_2 ((rd_T58 l0 (rd l2 x11_3)).f2).length c239_2) ∧ w'.cell? (ad240.add ((x11_3).toNat * 2)) = some (.string ((rd_T124 l1 x11_3).f0)) ∧ w'.cell? ⟨(ad240.add ((x11_3).toNat * 2)).block, (ad240.add ((x11_3).toNat * 2)).off + 1, none⟩ = some (.int .i64 ((rd_T124 l1 x11_3).f1))) (ds := []) b10A0 zG106 rfl rfl ⟨((HB.out.cell (zj w _ hw238_0)).trans hw238_0), ((HB.out.cell (zj w _ hw239_0)).trans hw239_0), ((HB.out.cell (zj w _ hw239_1)).trans hw239_1), ((HB.out.cell (zj w _ hw239_2)).trans hw239_2), ((HB.out.cell (zj w _ hw240_0)).trans hw240_0), ((HB.out.cell (zj w _ hw240_1)).trans hw240_1)⟩ (fun hHeld => ?_); refine with_tabW spec_SourceOf.tab17 spec_SourceOf.bits17 (fun HT_ HW_ => ?_)
        generalize wr.drew = w63 at HO_9 HO_233000 BK230 BK232 HB HR239_2 hx238_0 hx239_0 hx239_1 hx239_2 hx240_0 hx240_1 hHeld ⊢
        refine zP 0 63 b10A1 HT_ ?_
        refine zP 1 64 b10A6 HT_ ?_
        refine zP 2 65 b10A7 HT_ ?_
        refine zP 3 66 b10A8 HT_ ?_
        refine zP 7 70 b10A9 HT_ ?_
        refine zP 8 71 b10A10 HT_ ?_
        refine zP 9 72 b10A11 HT_ ?_
        refine zQ 4 67 b10A12 HT_ HW_ hHeld ?_
        refine zP 5 68 b10A13 HT_ ?_
        refine zQ 6 69 b10A2 HT_ HW_ hHeld ?_
        refine zQ 10 73 b10A3 HT_ HW_ hHeld ?_
        refine one_ (i := 11) (N := some 74) b10A4 rfl rfl (one_of HT_.out zG106) zG107 (fun K hK => ?_)
        refine goes_ Try.func136 zG106 rfl #[.agg #[.string ((rd_T58 l0 (rd l2 x11_3)).f0), .int .i64 ((rd_T58 l0 (rd l2 x11_3)).f1), .slice A239_2 ((rd_T58 l0 (rd l2 x11_3)).f2).length c239_2], .agg #[.string ((rd_T124 l1 x11_3).f0), .int .i64 ((rd_T124 l1 x11_3).f1)]] (by rfl) rfl rfl zG80 ?_
        with_reducible refine (spec_l23Has.calls k3 ((rd_T58 l0 (rd l2 x11_3)).f0) ((rd_T58 l0 (rd l2 x11_3)).f1) _ _ ((rd_T58 l0 (rd l2 x11_3)).f2) ((rd_T124 l1 x11_3).f0) ((rd_T124 l1 x11_3).f1) false _ ?side1 ?side2 A34.out).mono ?_
        (case side1 => exact zH69)
        (case side2 => exact HC239_2.out)
        rintro e w64 ⟨rfl, hb⟩
        refine ⟨_, rfl, ?_⟩
        obtain ⟨n0_, n1_, n2_, n3_, n4_⟩ := zD5 (zt zG104 hb) (zt zK229 hb) (zo (g := gb230) (o := .cells #[.slice none 0 0, .int .i64 x231001_3, .int .i64 x231002_3] 52 (0, 0)) zG94 hb) (zo (g := gb232) (o := .cells #[u233000, .int .i64 x233001_3, .int .i64 x233002_3] 52 (0, 0)) zK224 hb) (zq zG78 hb)
        clear HO_9 HO_233000 BK230 BK232 HB
        have HO_9 := n0_
        have HO_233000 := n1_
        have BK230 := n2_
        have BK232 := n3_
        have HB := n4_
        clear n0_ n1_ n2_ n3_ n4_
        (try clear hb)
        (try clear hb2)
        (try clear hk)
        (try clear hi)
        refine hK.out _ _ ⟨((HB.out.cell (zj w _ hw238_0)).trans hw238_0), ((HB.out.cell (zj w _ hw239_0)).trans hw239_0), ((HB.out.cell (zj w _ hw239_1)).trans hw239_1), ((HB.out.cell (zj w _ hw239_2)).trans hw239_2), ((HB.out.cell (zj w _ hw240_0)).trans hw240_0), ((HB.out.cell (zj w _ hw240_1)).trans hw240_1)⟩ (fun hHeld => ?_)
        clear hK K
        refine norm_ (a' := ?_) ?_ ?_
        rotate_left
        ·show Act.put _ (some 74) _ = _
         simp only [Act.put, List.setIfInBounds_toArray, List.set_cons_zero, List.set_cons_succ, i64_w, i32_w]
         rfl
        refine zP 12 75 b10A5 HT_ ?_
        refine done_ (done_of HT_.out zG106) ?_
        have hnb65 := NB230_232.out
        have hnc65 := NB232_230.out
        obtain ⟨hcz66_0, hcz66_1, hcz66_2, hfz66_0, hfz66_1, hfz66_2⟩ := zB3 BK230.out
        try go_wp2
        refine bodyPost_ret (results_ct rfl _ _ gb230 52 #[.slice none 0 0, .int .i64 0, .int .i64 0] (0, 0) _ rfl (by (with_reducible repeat (first | refine zc ?_ _ | refine ze ?_ | refine zb ?_ _)); refine zw (cs := #[.slice none 0 0, .int .i64 0, .int .i64 x231002_3]) ?_ 2 _ rfl; (with_reducible repeat (first | refine zc ?_ _ | refine ze ?_ | refine zb ?_ _)); refine zw (cs := #[.slice none 0 0, .int .i64 x231001_3, .int .i64 x231002_3]) ?_ 1 _ rfl; (with_reducible repeat (first | refine zc ?_ _ | refine ze ?_ | refine zb ?_ _)); refine zw (cs := #[.slice none 0 0, .int .i64 x231001_3, .int .i64 x231002_3]) ?_ 0 _ rfl; (with_reducible repeat (first | refine zc ?_ _ | refine ze ?_ | refine zb ?_ _)); exact BK230.out) Try.underlying52 rfl zG106) rfl ?_
        exact zH11
       subst c35
       have H1 : (if x233000_3.length < 17592186044416 then ((some (x233000_3 ++ [rd l2 x11_3] : List Int)).bind fun y243 => (if (rd l2 x11_3) < (x9_3.length : Int) then (if (rdOf false x9_3 (rd l2 x11_3) = true) then (spec_SourceOf.l1 k3 l0 l1 l2 x9_3 (wrap64 (x11_3 + 1)) y243 x233001_3 x233002_3) else (spec_SourceOf.l1 k3 l0 l1 l2 (x9_3.set ((rd l2 x11_3) : Int).toNat true) (wrap64 (x11_3 + 1)) y243 (wrap64 (x233001_3 + 1)) (wrap64 (x233002_3 + ((rd_T58 l0 (rd l2 x11_3)).f1))))) else (none))) else (none)) = some (r1, r2, r3, r4) := by rw [if_pos rfl] at H; exact H
       clear H
       have H := H1
       clear H1
       by_cases c36 : x233000_3.length < 17592186044416
       rotate_left
       ·rw [if_neg c36] at H
        exact absurd H (by simp)
       rw [if_pos c36] at H
       have LMc36 := za c36
       clear c36
       obtain ⟨y243, hy243⟩ : ∃ y_ : List Int, y_ = (x233000_3 ++ [rd l2 x11_3]) := ⟨_, rfl⟩
       replace H : (if (rd l2 x11_3) < (x9_3.length : Int) then (if (rdOf false x9_3 (rd l2 x11_3) = true) then (spec_SourceOf.l1 k3 l0 l1 l2 x9_3 (wrap64 (x11_3 + 1)) y243 x233001_3 x233002_3) else (spec_SourceOf.l1 k3 l0 l1 l2 (x9_3.set ((rd l2 x11_3) : Int).toNat true) (wrap64 (x11_3 + 1)) y243 (wrap64 (x233001_3 + 1)) (wrap64 (x233002_3 + ((rd_T58 l0 (rd l2 x11_3)).f1))))) else (none)) = some (r1, r2, r3, r4) := by first | (rw [hy243]; with_reducible exact H) | (have H2_ := (Option.bind_some _ _).symm.trans H; rw [hy243]; with_reducible exact H2_) | (have H2_ := (Option.bind_some _ _).symm.trans H; with_reducible exact H2_) | with_reducible exact H | (rw [hy243]; exact H) | exact H
       have Ny243 := za hy243
       clear hy243
       by_cases c37 : (rd l2 x11_3) < (x9_3.length : Int)
       rotate_left
       ·rw [if_neg c37] at H
        exact absurd H (by simp)
       rw [if_pos c37] at H
       have c37b0 := decide_eq_true c37
       clear c37
       obtain ⟨bq38, hbq38⟩ : ∃ b_ : Bool, b_ = (rdOf false x9_3 (rd l2 x11_3)) := ⟨_, rfl⟩
       replace H : (if (bq38 = true) then (spec_SourceOf.l1 k3 l0 l1 l2 x9_3 (wrap64 (x11_3 + 1)) y243 x233001_3 x233002_3) else (spec_SourceOf.l1 k3 l0 l1 l2 (x9_3.set ((rd l2 x11_3) : Int).toNat true) (wrap64 (x11_3 + 1)) y243 (wrap64 (x233001_3 + 1)) (wrap64 (x233002_3 + ((rd_T58 l0 (rd l2 x11_3)).f1))))) = some (r1, r2, r3, r4) := by rw [← hbq38] at H; exact H
       have Nbq38 := za hbq38
       clear hbq38
       by_cases c39 : (bq38 = true)
       ·subst c39
        have H1 : (spec_SourceOf.l1 k3 l0 l1 l2 x9_3 (wrap64 (x11_3 + 1)) y243 x233001_3 x233002_3) = some (r1, r2, r3, r4) := by rw [if_pos rfl] at H; exact H
        clear H
        have H := H1
        clear H1
        have H' := za H
        clear H
        try go_wp2
        obtain ⟨n0_, n1_, n2_, n3_, n4_⟩ := zD5 (zn HO_9.out) (zn HO_233000.out) (ze BK230.out) (ze BK232.out) (zg HB.out)
        clear HO_9 HO_233000 BK230 BK232 HB
        have HO_9 := n0_
        have HO_233000 := n1_
        have BK230 := n2_
        have BK232 := n3_
        have HB := n4_
        clear n0_ n1_ n2_ n3_ n4_
        have p238 : 0 ≤ (x11_3 : Int) := zO
        have q238 : x11_3 < (l2.length : Int) := zO
        obtain ⟨ad238, e238, hx238_0⟩ := zao HR2.out x11_3 p238 q238
        have hw238_0 := hx238_0
        cases e238
        replace hx238_0 := (HB.out.cell (zj w _ hx238_0)).trans hx238_0
        replace p238 := eq_true p238
        replace q238 := eq_true q238
        have p239 : 0 ≤ ((rd l2 x11_3) : Int) := zO
        have q239 : (rd l2 x11_3) < (l0.length : Int) := zO
        obtain ⟨ad239, A239_2, c239_2, e239, hx239_0, hx239_1, hx239_2, hl239_2, hi239_2⟩ := at_T58 HR0.out (rd l2 x11_3) p239 q239
        have hw239_2 := hx239_2
        have hw239_1 := hx239_1
        have hw239_0 := hx239_0
        cases e239
        replace hx239_0 := (HB.out.cell (zj w _ hx239_0)).trans hx239_0
        replace hx239_1 := (HB.out.cell (zj w _ hx239_1)).trans hx239_1
        replace hx239_2 := (HB.out.cell (zj w _ hx239_2)).trans hx239_2
        obtain ⟨HR239_2, HC239_2⟩ := zD2 hi239_2 hl239_2
        clear hi239_2 hl239_2
        replace p239 := eq_true p239
        replace q239 := eq_true q239
        have p240 : 0 ≤ (x11_3 : Int) := zO
        have q240 : x11_3 < (l1.length : Int) := zO
        obtain ⟨ad240, e240, hx240_0, hx240_1⟩ := at_T124 HR1.out x11_3 p240 q240
        have hw240_1 := hx240_1
        have hw240_0 := hx240_0
        cases e240
        replace hx240_0 := (HB.out.cell (zj w _ hx240_0)).trans hx240_0
        replace hx240_1 := (HB.out.cell (zj w _ hx240_1)).trans hx240_1
        replace p240 := eq_true p240
        replace q240 := eq_true q240
        refine start_ (n := 13) (S := fun w' => w'.cell? (ad238.add (x11_3).toNat) = some (.int .i64 (rd l2 x11_3)) ∧ w'.cell? (ad239.add (((rd l2 x11_3)).toNat * 3)) = some (.string ((rd_T58 l0 (rd l2 x11_3)).f0)) ∧ w'.cell? ⟨(ad239.add (((rd l2 x11_3)).toNat * 3)).block, (ad239.add (((rd l2 x11_3)).toNat * 3)).off + 1, none⟩ = some (.int .i64 ((rd_T58 l0 (rd l2 x11_3)).f1)) ∧ w'.cell? ⟨(ad239.add (((rd l2 x11_3)).toNat * 3)).block, (ad239.add (((rd l2 x11_3)).toNat * 3)).off + 2, none⟩ = some (.slice A239_2 ((rd_T58 l0 (rd l2 x11_3)).f2).length c239_2) ∧ w'.cell? (ad240.add ((x11_3).toNat * 2)) = some (.string ((rd_T124 l1 x11_3).f0)) ∧ w'.cell? ⟨(ad240.add ((x11_3).toNat * 2)).block, (ad240.add ((x11_3).toNat * 2)).off + 1, none⟩ = some (.int .i64 ((rd_T124 l1 x11_3).f1))) (ds := []) b10A0 zG106 rfl rfl ⟨((HB.out.cell (zj w _ hw238_0)).trans hw238_0), ((HB.out.cell (zj w _ hw239_0)).trans hw239_0), ((HB.out.cell (zj w _ hw239_1)).trans hw239_1), ((HB.out.cell (zj w _ hw239_2)).trans hw239_2), ((HB.out.cell (zj w _ hw240_0)).trans hw240_0), ((HB.out.cell (zj w _ hw240_1)).trans hw240_1)⟩ (fun hHeld => ?_); refine with_tabW spec_SourceOf.tab17 spec_SourceOf.bits17 (fun HT_ HW_ => ?_)
        generalize wr.drew = w40 at HO_9 HO_233000 BK230 BK232 HB HR239_2 hx238_0 hx239_0 hx239_1 hx239_2 hx240_0 hx240_1 hHeld ⊢
        refine zP 0 63 b10A1 HT_ ?_
        refine zP 1 64 b10A6 HT_ ?_
        refine zP 2 65 b10A7 HT_ ?_
        refine zP 3 66 b10A8 HT_ ?_
        refine zP 7 70 b10A9 HT_ ?_
        refine zP 8 71 b10A10 HT_ ?_
        refine zP 9 72 b10A11 HT_ ?_
        refine zQ 4 67 b10A12 HT_ HW_ hHeld ?_
        refine zP 5 68 b10A13 HT_ ?_
        refine zQ 6 69 b10A2 HT_ HW_ hHeld ?_
        refine zQ 10 73 b10A3 HT_ HW_ hHeld ?_
        refine one_ (i := 11) (N := some 74) b10A4 rfl rfl (one_of HT_.out zG106) zG107 (fun K hK => ?_)
        refine goes_ Try.func136 zG106 rfl #[.agg #[.string ((rd_T58 l0 (rd l2 x11_3)).f0), .int .i64 ((rd_T58 l0 (rd l2 x11_3)).f1), .slice A239_2 ((rd_T58 l0 (rd l2 x11_3)).f2).length c239_2], .agg #[.string ((rd_T124 l1 x11_3).f0), .int .i64 ((rd_T124 l1 x11_3).f1)]] (by rfl) rfl rfl zG80 ?_
        with_reducible refine (spec_l23Has.calls k3 ((rd_T58 l0 (rd l2 x11_3)).f0) ((rd_T58 l0 (rd l2 x11_3)).f1) _ _ ((rd_T58 l0 (rd l2 x11_3)).f2) ((rd_T124 l1 x11_3).f0) ((rd_T124 l1 x11_3).f1) true _ ?side1 ?side2 A34.out).mono ?_
        (case side1 => exact zH69)
        (case side2 => exact HC239_2.out)
        rintro e w41 ⟨rfl, hb⟩
        refine ⟨_, rfl, ?_⟩
        obtain ⟨n0_, n1_, n2_, n3_, n4_⟩ := zD5 (zt zG104 hb) (zt zK229 hb) (zo (g := gb230) (o := .cells #[.slice none 0 0, .int .i64 x231001_3, .int .i64 x231002_3] 52 (0, 0)) zG94 hb) (zo (g := gb232) (o := .cells #[u233000, .int .i64 x233001_3, .int .i64 x233002_3] 52 (0, 0)) zK224 hb) (zq zG78 hb)
        clear HO_9 HO_233000 BK230 BK232 HB
        have HO_9 := n0_
        have HO_233000 := n1_
        have BK230 := n2_
        have BK232 := n3_
        have HB := n4_
        clear n0_ n1_ n2_ n3_ n4_
        (try clear hb)
        (try clear hb2)
        (try clear hk)
        (try clear hi)
        refine hK.out _ _ ⟨((HB.out.cell (zj w _ hw238_0)).trans hw238_0), ((HB.out.cell (zj w _ hw239_0)).trans hw239_0), ((HB.out.cell (zj w _ hw239_1)).trans hw239_1), ((HB.out.cell (zj w _ hw239_2)).trans hw239_2), ((HB.out.cell (zj w _ hw240_0)).trans hw240_0), ((HB.out.cell (zj w _ hw240_1)).trans hw240_1)⟩ (fun hHeld => ?_)
        clear hK K
        refine norm_ (a' := ?_) ?_ ?_
        rotate_left
        ·show Act.put _ (some 74) _ = _
         simp only [Act.put, List.setIfInBounds_toArray, List.set_cons_zero, List.set_cons_succ, i64_w, i32_w]
         rfl
        refine zP 12 75 b10A5 HT_ ?_
        refine done_ (done_of HT_.out zG106) ?_
        try go_wp2
        obtain ⟨n0_, n1_, n2_, n3_, n4_⟩ := zD5 (zn HO_9.out) (zn HO_233000.out) (ze BK230.out) (ze BK232.out) (zg HB.out)
        clear HO_9 HO_233000 BK230 BK232 HB
        have HO_9 := n0_
        have HO_233000 := n1_
        have BK230 := n2_
        have BK232 := n3_
        have HB := n4_
        clear n0_ n1_ n2_ n3_ n4_
        have p242 : 0 ≤ (x11_3 : Int) := zO
        have q242 : x11_3 < (l2.length : Int) := zO
        obtain ⟨ad242, e242, hx242_0⟩ := zao HR2.out x11_3 p242 q242
        have hw242_0 := hx242_0
        obtain rfl : ad238 = ad242 := (by injection e242)
        replace hx242_0 := (HB.out.cell (zj w _ hx242_0)).trans hx242_0
        replace p242 := eq_true p242
        replace q242 := eq_true q242
        refine start_ (n := 10) (S := fun w' => w'.cell? ⟨gb232, 0, none⟩ = some (u233000) ∧ w'.cell? ⟨gb232, 1, none⟩ = some (.int .i64 x233001_3) ∧ w'.cell? ⟨gb232, 2, none⟩ = some (.int .i64 x233002_3) ∧ w'.cell? (ad238.add (x11_3).toNat) = some (.int .i64 (rd l2 x11_3))) (ds := [9]) b10A14 zG106 rfl rfl ⟨(zi BK232.out 0).trans rfl, (zi BK232.out 1).trans rfl, (zi BK232.out 2).trans rfl, ((HB.out.cell (zj w _ hw242_0)).trans hw242_0)⟩ (fun hHeld => ?_); refine with_tabW spec_SourceOf.tab19 spec_SourceOf.bits19 (fun HT_ HW_ => ?_)
        generalize w41.drew = w42 at HO_9 HO_233000 BK230 BK232 HB hx242_0 hHeld ⊢
        refine zP 0 77 b10A15 HT_ ?_
        refine zP 2 79 b10A16 HT_ ?_
        refine zP 3 80 b10A17 HT_ ?_
        refine zP 4 81 b10A18 HT_ ?_
        refine zQ 1 78 b10A19 HT_ HW_ hHeld ?_
        refine zQ 5 82 b10A20 HT_ HW_ hHeld ?_
        refine one_ (i := 6) (N := some 83) b10A21 rfl rfl (one_of HT_.out zG106) zG107 (fun K hK => ?_)
        refine value_ (w1 := ?_) (v := ?_) (by rfl) rfl ?_ ?_
        rotate_left 2
        ·go_simp
         constructor
         ·rfl
         ·rfl
        refine hK.out _ _ ⟨(zi (zb BK232.out _) 0).trans rfl, (zi (zb BK232.out _) 1).trans rfl, (zi (zb BK232.out _) 2).trans rfl, (World.cell?_alloc_lt _ _ _ (zj _ _ (((HB.out.cell (zj w _ hw242_0)).trans hw242_0)))).trans (((HB.out.cell (zj w _ hw242_0)).trans hw242_0))⟩ (fun hHeld => ?_)
        clear hK K
        refine norm_ (a' := ?_) ?_ ?_
        rotate_left
        ·show Act.put _ (some 83) _ = _
         simp only [Act.put, List.setIfInBounds_toArray, List.set_cons_zero, List.set_cons_succ, i64_w, i32_w]
         rfl
        refine one_ (i := 7) (N := some 84) b10A22 rfl rfl (one_of HT_.out zG106) zG107 (fun K hK => ?_)
        refine Kd.R_append_step (Kd.int .i64) (w0 := w) w.heap.size (by rfl) (.tmp 78) (.tmp 83) 24 3 (.int .i64 0) 8 rfl Try.underlying24 info3 rfl zG107 (by omega) u233000 x233000_3 (rd l2 x11_3) [.int .i64 (rd l2 x11_3)] (fun _ => True) (fun _ => False) rfl rfl ?aP (fun _ hk => hk.elim) ?aF ?aO ?aB ?aS ?aL ?_
        (case aP => exact rfl)
        (case aB => exact zG78)
        (case aF => exact (fun _ _ => trivial))
        (case aO => exact zK229)
        (case aS => exact (zp zG78))
        (case aL => have := LMc36.out; omega)
        intro v244 w43 ho hb hg hat
        rw [← Ny243.out] at ho
        obtain ⟨n0_, n1_, n2_, n3_, n4_⟩ := zD5 (Kd.R_over' zG104 (zbf zK229) zG107 hg) (zaw (g := gb230) (o := .cells #[.slice none 0 0, .int .i64 x231001_3, .int .i64 x231002_3] 52 (0, 0)) zG94 hg (zap HO_233000.out BK230.out zG107)) (zaw (g := gb232) (o := .cells #[u233000, .int .i64 x233001_3, .int .i64 x233002_3] 52 (0, 0)) zK224 hg (zap HO_233000.out BK232.out zG107)) (hb) (ho)
        clear HO_9 BK230 BK232 HB HO_233000
        have HO_9 := n0_
        have BK230 := n1_
        have BK232 := n2_
        have HB := n3_
        have HO245 := n4_
        clear n0_ n1_ n2_ n3_ n4_
        clear ho hb hg hat
        obtain ⟨Ao44, co44, eo44⟩ := zaf HO245.out
        (first | subst eo44 | (injection eo44 with f1_ f2_ f3_; have f4_ := f1_.symm; have f5_ := f3_.symm; clear f1_ f2_ f3_; subst f4_; subst f5_))
        refine hK.out _ _ ⟨(zi BK232.out 0).trans rfl, (zi BK232.out 1).trans rfl, (zi BK232.out 2).trans rfl, ((HB.out.cell (zj w _ hw242_0)).trans hw242_0)⟩ (fun hHeld => ?_)
        clear hK K
        refine norm_ (a' := ?_) ?_ ?_
        rotate_left
        ·show Act.put _ (some 84) _ = _
         simp only [Act.put, List.setIfInBounds_toArray, List.set_cons_zero, List.set_cons_succ, i64_w, i32_w]
         rfl
        refine zP 8 85 b10A23 HT_ ?_
        refine last_ (i := 9) (N := none) b10A24 rfl rfl (one_of HT_.out zG106) zG107 (fun K hK => ?_)
        have hs45 : w43.cell? ⟨gb232, 0, none⟩ = some (u233000) := (zi BK232.out 0).trans rfl
        have hfs45 := zk BK232.out 0
        have hns45_0 := NB230_232.out
        have hms45_0 := NB232_230.out
        refine skip_ (w1 := ?_) (by rfl) rfl ?_ ?_
        rotate_left
        ·go_simp
         rfl
        refine hK.out _ _ ?_
        clear hK K
        refine done_ (done_of HT_.out zG106) ?_
        have p246 : 0 ≤ (x11_3 : Int) := zO
        have q246 : x11_3 < (l2.length : Int) := zO
        obtain ⟨ad246, e246, hx246_0⟩ := zao HR2.out x11_3 p246 q246
        obtain rfl : ad238 = ad246 := (by injection e246)
        have hn246_0 : ad238.block ≠ gb232 := Nat.ne_of_lt (Nat.lt_of_lt_of_le (by have := zj _ _ hx246_0; first | rwa [add_block] at this | exact this) GW232.out)
        replace hx246_0 := (HB.out.cell (zj w _ hx246_0)).trans hx246_0
        replace hx246_0 := (cell_far (p := ⟨gb232, 0, none⟩) (by first | (rw [add_block]; exact hn246_0) | (show (Addr.add _ _).block ≠ _; rw [add_block]; exact hn246_0) | exact hn246_0) (.slice Ao44 y243.length co44)).trans hx246_0
        clear hn246_0
        replace p246 := eq_true p246
        replace q246 := eq_true q246
        obtain ⟨Ao46, co46, eo46⟩ := zaf HO_9.out
        subst eo46
        have p247 : 0 ≤ ((rd l2 x11_3) : Int) := zO
        have q247 : (rd l2 x11_3) < (x9_3.length : Int) := zO
        obtain ⟨ad247, e247, hx247_0⟩ := Kd.at_bool (Kd.R_reads' HO_9.out).2.2 (rd l2 x11_3) p247 q247
        (try rw [← Nbq38.out] at hx247_0)
        cases e247
        have hn247_0 : ad247.block ≠ gb232 := Kd.own_blk (zap HO_9.out BK232.out zG107)
        replace hx247_0 := (cell_far (p := ⟨gb232, 0, none⟩) (by first | (rw [add_block]; exact hn247_0) | (show (Addr.add _ _).block ≠ _; rw [add_block]; exact hn247_0) | exact hn247_0) (.slice Ao44 y243.length co44)).trans hx247_0
        clear hn247_0
        replace p247 := eq_true p247
        replace q247 := eq_true q247
        try go_wp2
        go_roundg k3
        case measure => have := HJ3.out; have := HK2.out; have := HK3.out; omega
        case rel => exact ⟨(x9_3), (wrap64 (x11_3 + 1)), (x231001_3), (x231002_3), (y243), (x233001_3), (x233002_3), (.slice Ao44 y243.length co44), zG105, H', ⟨by have := HJ3.out; have := HK2.out; have := HK3.out; omega⟩, ⟨by (with_reducible repeat (first | apply zl | apply zm | apply zn)); exact zx (zr (p := ⟨gb232, 0, none⟩) (zaa HO_9.out BK232.out zG107) (fun _ hk => hk.2) (.slice Ao44 y243.length co44)) (fun _ hk => trivial)⟩, ⟨by (with_reducible repeat (first | apply zl | apply zm | apply zn)); exact zx (zr (p := ⟨gb232, 0, none⟩) (zaa HO245.out BK232.out zG107) (fun _ hk => hk.2) (.slice Ao44 y243.length co44)) (fun _ hk => trivial)⟩, ⟨zH42⟩, ⟨zH20⟩, ⟨zH54⟩⟩
       replace c39 := Bool.eq_false_iff.mpr c39
       subst c39
       have H1 : (spec_SourceOf.l1 k3 l0 l1 l2 (x9_3.set ((rd l2 x11_3) : Int).toNat true) (wrap64 (x11_3 + 1)) y243 (wrap64 (x233001_3 + 1)) (wrap64 (x233002_3 + ((rd_T58 l0 (rd l2 x11_3)).f1)))) = some (r1, r2, r3, r4) := by rw [if_neg (show ¬ (false = true) by decide)] at H; exact H
       clear H
       have H := H1
       clear H1
       obtain ⟨y249, hy249⟩ : ∃ y_ : List Bool, y_ = (x9_3.set ((rd l2 x11_3) : Int).toNat true) := ⟨_, rfl⟩
       replace H : (spec_SourceOf.l1 k3 l0 l1 l2 y249 (wrap64 (x11_3 + 1)) y243 (wrap64 (x233001_3 + 1)) (wrap64 (x233002_3 + ((rd_T58 l0 (rd l2 x11_3)).f1)))) = some (r1, r2, r3, r4) := by first | (rw [hy249]; with_reducible exact H) | (have H2_ := (Option.bind_some _ _).symm.trans H; rw [hy249]; with_reducible exact H2_) | (have H2_ := (Option.bind_some _ _).symm.trans H; with_reducible exact H2_) | with_reducible exact H | (rw [hy249]; exact H) | exact H
       have Ny249 := za hy249
       clear hy249
       have H' := za H
       clear H
       try go_wp2
       obtain ⟨n0_, n1_, n2_, n3_, n4_⟩ := zD5 (zn HO_9.out) (zn HO_233000.out) (ze BK230.out) (ze BK232.out) (zg HB.out)
       clear HO_9 HO_233000 BK230 BK232 HB
       have HO_9 := n0_
       have HO_233000 := n1_
       have BK230 := n2_
       have BK232 := n3_
       have HB := n4_
       clear n0_ n1_ n2_ n3_ n4_
       have p238 : 0 ≤ (x11_3 : Int) := zO
       have q238 : x11_3 < (l2.length : Int) := zO
       obtain ⟨ad238, e238, hx238_0⟩ := zao HR2.out x11_3 p238 q238
       have hw238_0 := hx238_0
       cases e238
       replace hx238_0 := (HB.out.cell (zj w _ hx238_0)).trans hx238_0
       replace p238 := eq_true p238
       replace q238 := eq_true q238
       have p239 : 0 ≤ ((rd l2 x11_3) : Int) := zO
       have q239 : (rd l2 x11_3) < (l0.length : Int) := zO
       obtain ⟨ad239, A239_2, c239_2, e239, hx239_0, hx239_1, hx239_2, hl239_2, hi239_2⟩ := at_T58 HR0.out (rd l2 x11_3) p239 q239
       have hw239_2 := hx239_2
       have hw239_1 := hx239_1
       have hw239_0 := hx239_0
       cases e239
       replace hx239_0 := (HB.out.cell (zj w _ hx239_0)).trans hx239_0
       replace hx239_1 := (HB.out.cell (zj w _ hx239_1)).trans hx239_1
       replace hx239_2 := (HB.out.cell (zj w _ hx239_2)).trans hx239_2
       obtain ⟨HR239_2, HC239_2⟩ := zD2 hi239_2 hl239_2
       clear hi239_2 hl239_2
       replace p239 := eq_true p239
       replace q239 := eq_true q239
       have p240 : 0 ≤ (x11_3 : Int) := zO
       have q240 : x11_3 < (l1.length : Int) := zO
       obtain ⟨ad240, e240, hx240_0, hx240_1⟩ := at_T124 HR1.out x11_3 p240 q240
       have hw240_1 := hx240_1
       have hw240_0 := hx240_0
       cases e240
       replace hx240_0 := (HB.out.cell (zj w _ hx240_0)).trans hx240_0
       replace hx240_1 := (HB.out.cell (zj w _ hx240_1)).trans hx240_1
       replace p240 := eq_true p240
       replace q240 := eq_true q240
       refine start_ (n := 13) (S := fun w' => w'.cell? (ad238.add (x11_3).toNat) = some (.int .i64 (rd l2 x11_3)) ∧ w'.cell? (ad239.add (((rd l2 x11_3)).toNat * 3)) = some (.string ((rd_T58 l0 (rd l2 x11_3)).f0)) ∧ w'.cell? ⟨(ad239.add (((rd l2 x11_3)).toNat * 3)).block, (ad239.add (((rd l2 x11_3)).toNat * 3)).off + 1, none⟩ = some (.int .i64 ((rd_T58 l0 (rd l2 x11_3)).f1)) ∧ w'.cell? ⟨(ad239.add (((rd l2 x11_3)).toNat * 3)).block, (ad239.add (((rd l2 x11_3)).toNat * 3)).off + 2, none⟩ = some (.slice A239_2 ((rd_T58 l0 (rd l2 x11_3)).f2).length c239_2) ∧ w'.cell? (ad240.add ((x11_3).toNat * 2)) = some (.string ((rd_T124 l1 x11_3).f0)) ∧ w'.cell? ⟨(ad240.add ((x11_3).toNat * 2)).block, (ad240.add ((x11_3).toNat * 2)).off + 1, none⟩ = some (.int .i64 ((rd_T124 l1 x11_3).f1))) (ds := []) b10A0 zG106 rfl rfl ⟨((HB.out.cell (zj w _ hw238_0)).trans hw238_0), ((HB.out.cell (zj w _ hw239_0)).trans hw239_0), ((HB.out.cell (zj w _ hw239_1)).trans hw239_1), ((HB.out.cell (zj w _ hw239_2)).trans hw239_2), ((HB.out.cell (zj w _ hw240_0)).trans hw240_0), ((HB.out.cell (zj w _ hw240_1)).trans hw240_1)⟩ (fun hHeld => ?_); refine with_tabW spec_SourceOf.tab17 spec_SourceOf.bits17 (fun HT_ HW_ => ?_)
       generalize wr.drew = w48 at HO_9 HO_233000 BK230 BK232 HB HR239_2 hx238_0 hx239_0 hx239_1 hx239_2 hx240_0 hx240_1 hHeld ⊢
       refine zP 0 63 b10A1 HT_ ?_
       refine zP 1 64 b10A6 HT_ ?_
       refine zP 2 65 b10A7 HT_ ?_
       refine zP 3 66 b10A8 HT_ ?_
       refine zP 7 70 b10A9 HT_ ?_
       refine zP 8 71 b10A10 HT_ ?_
       refine zP 9 72 b10A11 HT_ ?_
       refine zQ 4 67 b10A12 HT_ HW_ hHeld ?_
       refine zP 5 68 b10A13 HT_ ?_
       refine zQ 6 69 b10A2 HT_ HW_ hHeld ?_
       refine zQ 10 73 b10A3 HT_ HW_ hHeld ?_
       refine one_ (i := 11) (N := some 74) b10A4 rfl rfl (one_of HT_.out zG106) zG107 (fun K hK => ?_)
       refine goes_ Try.func136 zG106 rfl #[.agg #[.string ((rd_T58 l0 (rd l2 x11_3)).f0), .int .i64 ((rd_T58 l0 (rd l2 x11_3)).f1), .slice A239_2 ((rd_T58 l0 (rd l2 x11_3)).f2).length c239_2], .agg #[.string ((rd_T124 l1 x11_3).f0), .int .i64 ((rd_T124 l1 x11_3).f1)]] (by rfl) rfl rfl zG80 ?_
       with_reducible refine (spec_l23Has.calls k3 ((rd_T58 l0 (rd l2 x11_3)).f0) ((rd_T58 l0 (rd l2 x11_3)).f1) _ _ ((rd_T58 l0 (rd l2 x11_3)).f2) ((rd_T124 l1 x11_3).f0) ((rd_T124 l1 x11_3).f1) true _ ?side1 ?side2 A34.out).mono ?_
       (case side1 => exact zH69)
       (case side2 => exact HC239_2.out)
       rintro e w49 ⟨rfl, hb⟩
       refine ⟨_, rfl, ?_⟩
       obtain ⟨n0_, n1_, n2_, n3_, n4_⟩ := zD5 (zt zG104 hb) (zt zK229 hb) (zo (g := gb230) (o := .cells #[.slice none 0 0, .int .i64 x231001_3, .int .i64 x231002_3] 52 (0, 0)) zG94 hb) (zo (g := gb232) (o := .cells #[u233000, .int .i64 x233001_3, .int .i64 x233002_3] 52 (0, 0)) zK224 hb) (zq zG78 hb)
       clear HO_9 HO_233000 BK230 BK232 HB
       have HO_9 := n0_
       have HO_233000 := n1_
       have BK230 := n2_
       have BK232 := n3_
       have HB := n4_
       clear n0_ n1_ n2_ n3_ n4_
       (try clear hb)
       (try clear hb2)
       (try clear hk)
       (try clear hi)
       refine hK.out _ _ ⟨((HB.out.cell (zj w _ hw238_0)).trans hw238_0), ((HB.out.cell (zj w _ hw239_0)).trans hw239_0), ((HB.out.cell (zj w _ hw239_1)).trans hw239_1), ((HB.out.cell (zj w _ hw239_2)).trans hw239_2), ((HB.out.cell (zj w _ hw240_0)).trans hw240_0), ((HB.out.cell (zj w _ hw240_1)).trans hw240_1)⟩ (fun hHeld => ?_)
       clear hK K
       refine norm_ (a' := ?_) ?_ ?_
       rotate_left
       ·show Act.put _ (some 74) _ = _
        simp only [Act.put, List.setIfInBounds_toArray, List.set_cons_zero, List.set_cons_succ, i64_w, i32_w]
        rfl
       refine zP 12 75 b10A5 HT_ ?_
       refine done_ (done_of HT_.out zG106) ?_
       try go_wp2
       obtain ⟨n0_, n1_, n2_, n3_, n4_⟩ := zD5 (zn HO_9.out) (zn HO_233000.out) (ze BK230.out) (ze BK232.out) (zg HB.out)
       clear HO_9 HO_233000 BK230 BK232 HB
       have HO_9 := n0_
       have HO_233000 := n1_
       have BK230 := n2_
       have BK232 := n3_
       have HB := n4_
       clear n0_ n1_ n2_ n3_ n4_
       have p242 : 0 ≤ (x11_3 : Int) := zO
       have q242 : x11_3 < (l2.length : Int) := zO
       obtain ⟨ad242, e242, hx242_0⟩ := zao HR2.out x11_3 p242 q242
       have hw242_0 := hx242_0
       obtain rfl : ad238 = ad242 := (by injection e242)
       replace hx242_0 := (HB.out.cell (zj w _ hx242_0)).trans hx242_0
       replace p242 := eq_true p242
       replace q242 := eq_true q242
       refine start_ (n := 10) (S := fun w' => w'.cell? ⟨gb232, 0, none⟩ = some (u233000) ∧ w'.cell? ⟨gb232, 1, none⟩ = some (.int .i64 x233001_3) ∧ w'.cell? ⟨gb232, 2, none⟩ = some (.int .i64 x233002_3) ∧ w'.cell? (ad238.add (x11_3).toNat) = some (.int .i64 (rd l2 x11_3))) (ds := [9]) b10A14 zG106 rfl rfl ⟨(zi BK232.out 0).trans rfl, (zi BK232.out 1).trans rfl, (zi BK232.out 2).trans rfl, ((HB.out.cell (zj w _ hw242_0)).trans hw242_0)⟩ (fun hHeld => ?_); refine with_tabW spec_SourceOf.tab19 spec_SourceOf.bits19 (fun HT_ HW_ => ?_)
       generalize w49.drew = w50 at HO_9 HO_233000 BK230 BK232 HB hx242_0 hHeld ⊢
       refine zP 0 77 b10A15 HT_ ?_
       refine zP 2 79 b10A16 HT_ ?_
       refine zP 3 80 b10A17 HT_ ?_
       refine zP 4 81 b10A18 HT_ ?_
       refine zQ 1 78 b10A19 HT_ HW_ hHeld ?_
       refine zQ 5 82 b10A20 HT_ HW_ hHeld ?_
       refine one_ (i := 6) (N := some 83) b10A21 rfl rfl (one_of HT_.out zG106) zG107 (fun K hK => ?_)
       refine value_ (w1 := ?_) (v := ?_) (by rfl) rfl ?_ ?_
       rotate_left 2
       ·go_simp
        constructor
        ·rfl
        ·rfl
       refine hK.out _ _ ⟨(zi (zb BK232.out _) 0).trans rfl, (zi (zb BK232.out _) 1).trans rfl, (zi (zb BK232.out _) 2).trans rfl, (World.cell?_alloc_lt _ _ _ (zj _ _ (((HB.out.cell (zj w _ hw242_0)).trans hw242_0)))).trans (((HB.out.cell (zj w _ hw242_0)).trans hw242_0))⟩ (fun hHeld => ?_)
       clear hK K
       refine norm_ (a' := ?_) ?_ ?_
       rotate_left
       ·show Act.put _ (some 83) _ = _
        simp only [Act.put, List.setIfInBounds_toArray, List.set_cons_zero, List.set_cons_succ, i64_w, i32_w]
        rfl
       refine one_ (i := 7) (N := some 84) b10A22 rfl rfl (one_of HT_.out zG106) zG107 (fun K hK => ?_)
       refine Kd.R_append_step (Kd.int .i64) (w0 := w) w.heap.size (by rfl) (.tmp 78) (.tmp 83) 24 3 (.int .i64 0) 8 rfl Try.underlying24 info3 rfl zG107 (by omega) u233000 x233000_3 (rd l2 x11_3) [.int .i64 (rd l2 x11_3)] (fun _ => True) (fun _ => False) rfl rfl ?aP (fun _ hk => hk.elim) ?aF ?aO ?aB ?aS ?aL ?_
       (case aP => exact rfl)
       (case aB => exact zG78)
       (case aF => exact (fun _ _ => trivial))
       (case aO => exact zK229)
       (case aS => exact (zp zG78))
       (case aL => have := LMc36.out; omega)
       intro v244 w51 ho hb hg hat
       rw [← Ny243.out] at ho
       obtain ⟨n0_, n1_, n2_, n3_, n4_⟩ := zD5 (Kd.R_over' zG104 (zbf zK229) zG107 hg) (zaw (g := gb230) (o := .cells #[.slice none 0 0, .int .i64 x231001_3, .int .i64 x231002_3] 52 (0, 0)) zG94 hg (zap HO_233000.out BK230.out zG107)) (zaw (g := gb232) (o := .cells #[u233000, .int .i64 x233001_3, .int .i64 x233002_3] 52 (0, 0)) zK224 hg (zap HO_233000.out BK232.out zG107)) (hb) (ho)
       clear HO_9 BK230 BK232 HB HO_233000
       have HO_9 := n0_
       have BK230 := n1_
       have BK232 := n2_
       have HB := n3_
       have HO245 := n4_
       clear n0_ n1_ n2_ n3_ n4_
       clear ho hb hg hat
       obtain ⟨Ao52, co52, eo52⟩ := zaf HO245.out
       (first | subst eo52 | (injection eo52 with f1_ f2_ f3_; have f4_ := f1_.symm; have f5_ := f3_.symm; clear f1_ f2_ f3_; subst f4_; subst f5_))
       refine hK.out _ _ ⟨(zi BK232.out 0).trans rfl, (zi BK232.out 1).trans rfl, (zi BK232.out 2).trans rfl, ((HB.out.cell (zj w _ hw242_0)).trans hw242_0)⟩ (fun hHeld => ?_)
       clear hK K
       refine norm_ (a' := ?_) ?_ ?_
       rotate_left
       ·show Act.put _ (some 84) _ = _
        simp only [Act.put, List.setIfInBounds_toArray, List.set_cons_zero, List.set_cons_succ, i64_w, i32_w]
        rfl
       refine zP 8 85 b10A23 HT_ ?_
       refine last_ (i := 9) (N := none) b10A24 rfl rfl (one_of HT_.out zG106) zG107 (fun K hK => ?_)
       have hs53 : w51.cell? ⟨gb232, 0, none⟩ = some (u233000) := (zi BK232.out 0).trans rfl
       have hfs53 := zk BK232.out 0
       have hns53_0 := NB230_232.out
       have hms53_0 := NB232_230.out
       refine skip_ (w1 := ?_) (by rfl) rfl ?_ ?_
       rotate_left
       ·go_simp
        rfl
       refine hK.out _ _ ?_
       clear hK K
       refine done_ (done_of HT_.out zG106) ?_
       have n0_ : Aside0 (Kd.R Kd.bool 4 (w51.setCell ⟨gb232, 0, none⟩ (.slice Ao52 y243.length co52)) w.heap.size (fun _ => True) v234 x9_3) := ⟨by (with_reducible repeat (first | apply zl | apply zm | apply zn)); exact zx (zr (p := ⟨gb232, 0, none⟩) (zaa HO_9.out BK232.out zG107) (fun _ hk => hk.2) (.slice Ao52 y243.length co52)) (fun _ hk => trivial)⟩
       have n1_ : Aside0 (Kd.R (Kd.int .i64) 3 (w51.setCell ⟨gb232, 0, none⟩ (.slice Ao52 y243.length co52)) w.heap.size (fun _ => True) (.slice Ao52 y243.length co52) y243) := ⟨by (with_reducible repeat (first | apply zl | apply zm | apply zn)); exact zx (zr (p := ⟨gb232, 0, none⟩) (zaa HO245.out BK232.out zG107) (fun _ hk => hk.2) (.slice Ao52 y243.length co52)) (fun _ hk => trivial)⟩
       have n2_ : Aside0 ((w51.setCell ⟨gb232, 0, none⟩ (.slice Ao52 y243.length co52)).heap[gb230]? = some (.cells #[.slice none 0 0, .int .i64 x231001_3, .int .i64 x231002_3] 52 (0, 0))) := ⟨zH42⟩
       have n3_ : Aside0 ((w51.setCell ⟨gb232, 0, none⟩ (.slice Ao52 y243.length co52)).heap[gb232]? = some (.cells #[.slice Ao52 y243.length co52, .int .i64 x233001_3, .int .i64 x233002_3] 52 (0, 0))) := ⟨zH20⟩
       have n4_ : Aside0 (Below w.heap.size w (w51.setCell ⟨gb232, 0, none⟩ (.slice Ao52 y243.length co52))) := ⟨zH54⟩
       (try clear HO_9)
       (try clear HO245)
       (try clear BK230)
       (try clear BK232)
       (try clear HB)
       generalize (w51.setCell ⟨gb232, 0, none⟩ (.slice Ao52 y243.length co52)) = w54 at n0_ n1_ n2_ n3_ n4_ ⊢
       have HO_9 := n0_
       have HO245 := n1_
       have BK230 := n2_
       have BK232 := n3_
       have HB := n4_
       clear n0_ n1_ n2_ n3_ n4_
       have p246 : 0 ≤ (x11_3 : Int) := zO
       have q246 : x11_3 < (l2.length : Int) := zO
       obtain ⟨ad246, e246, hx246_0⟩ := zao HR2.out x11_3 p246 q246
       obtain rfl : ad238 = ad246 := (by injection e246)
       replace hx246_0 := (HB.out.cell (zj w _ hx246_0)).trans hx246_0
       replace p246 := eq_true p246
       replace q246 := eq_true q246
       obtain ⟨Ao55, co55, eo55⟩ := zaf HO_9.out
       subst eo55
       have p247 : 0 ≤ ((rd l2 x11_3) : Int) := zO
       have q247 : (rd l2 x11_3) < (x9_3.length : Int) := zO
       obtain ⟨ad247, e247, hx247_0⟩ := Kd.at_bool (Kd.R_reads' HO_9.out).2.2 (rd l2 x11_3) p247 q247
       (try rw [← Nbq38.out] at hx247_0)
       cases e247
       replace p247 := eq_true p247
       replace q247 := eq_true q247
       have p248 : 0 ≤ (x11_3 : Int) := zO
       have q248 : x11_3 < (l2.length : Int) := zO
       obtain ⟨ad248, e248, hx248_0⟩ := zao HR2.out x11_3 p248 q248
       obtain rfl : ad238 = ad248 := (by injection e248)
       replace hx248_0 := (HB.out.cell (zj w _ hx248_0)).trans hx248_0
       replace p248 := eq_true p248
       replace q248 := eq_true q248
       have p47 : 0 ≤ ((rd l2 x11_3) : Int) := zO
       have q47 : ((rd l2 x11_3) : Int) < ((x9_3.length : Int) : Int) := zO
       obtain ⟨go47, co47, eo47, gb47, gl47, cl47, HG47⟩ := Kd.R_form HO_9.out (by omega)
       (first | cases eo47 | (injection eo47 with ea_ en_ ec_; (first | subst ea_ | (injection ea_ with ea_; subst ea_)); subst ec_; clear en_))
       obtain ⟨GB47, GG47⟩ := zD2 gb47 HG47
       clear gb47 gl47 HG47
       (first | simp only [add_plain] at hx247_0 | skip)
       obtain ⟨hx47_0, hf47_0⟩ := Kd.R_celln false HO_9.out ((rd l2 x11_3) : Int) p47 q47
       replace p47 := eq_true p47
       replace q47 := eq_true q47
       obtain ⟨hy56_, hz56_⟩ := Kd.R_celln false HO_9.out ((rd l2 x11_3) : Int) zO zO
       have HP56 := Kd.R_putg HO_9.out ((rd l2 x11_3) : Int) true
       try go_wp2_with (first | ((with_reducible refine gate_store (t := 4) (p := 99) rfl ?_); refine store_event (t := 4) (p := 99) (v := ?vo_w57) (w1 := (w54.setCell ⟨go47, ((rd l2 x11_3) : Int).toNat, none⟩ (.bool true))) ?hg ?ho ?hn ?hr ?_; (case ho => rfl); (case hg => rfl); (case hn => rfl); (case hr => exact zH124); intro w57 hw; have hg : w54.grownBy w57 (some go47) := (by rw [hw]; exact HP56.2); have hp_ : Kd.R Kd.bool 4 w57 w.heap.size (fun _ => True) (.slice (some ⟨go47, 0, none⟩) x9_3.length co55) y249 := (by rw [hw, Ny249.out]; exact HP56.1); clear HP56; have n_ := zA_ (za (hp_)) (zA_ (za (zaw (g := gb230) (o := .cells #[.slice none 0 0, .int .i64 x231001_3, .int .i64 x231002_3] 52 (0, 0)) zG94 hg (zap HO_9.out BK230.out zG107))) (zA_ (za (zaw (g := gb232) (o := .cells #[.slice Ao52 y243.length co52, .int .i64 x233001_3, .int .i64 x233002_3] 52 (0, 0)) zK224 hg (zap HO_9.out BK232.out zG107))) (zA_ (za (Kd.R_over' (v := (.slice (some ⟨go47, 0, none⟩) x9_3.length co55)) (by (with_reducible repeat (first | apply zl | apply zm | apply zn)); exact HO245.out) (zbf HO_9.out) zG107 hg)) (za ((by rw [hw]; exact zf (HB.out) GB47.out : Below w.heap.size w w57)))))); clear HO_9 BK230 BK232 HO245 HB; obtain ⟨HO_9, BK230, BK232, HO245, HB⟩ := n_; clear hg hw hp_; have hnb58 := NB232_230.out; have hnc58 := NB230_232.out; obtain ⟨hcz59_0, hcz59_1, hcz59_2, hfz59_0, hfz59_1, hfz59_2⟩ := zB3 BK232.out))
       have n0_ : Aside0 (Kd.R Kd.bool 4 (w57.setCell ⟨gb232, 1, none⟩ (.int .i64 (wrap64 (x233001_3 + 1)))) w.heap.size (fun _ => True) (.slice (some ⟨go47, 0, none⟩) x9_3.length co55) y249) := ⟨by (with_reducible repeat (first | apply zl | apply zm | apply zn)); exact zx (zr (p := ⟨gb232, 1, none⟩) (zaa HO_9.out BK232.out zG107) (fun _ hk => hk.2) (.int .i64 (wrap64 (x233001_3 + 1)))) (fun _ hk => trivial)⟩
       have n1_ : Aside0 (Kd.R (Kd.int .i64) 3 (w57.setCell ⟨gb232, 1, none⟩ (.int .i64 (wrap64 (x233001_3 + 1)))) w.heap.size (fun _ => True) (.slice Ao52 y243.length co52) y243) := ⟨by (with_reducible repeat (first | apply zl | apply zm | apply zn)); exact zx (zr (p := ⟨gb232, 1, none⟩) (zaa HO245.out BK232.out zG107) (fun _ hk => hk.2) (.int .i64 (wrap64 (x233001_3 + 1)))) (fun _ hk => trivial)⟩
       have n2_ : Aside0 ((w57.setCell ⟨gb232, 1, none⟩ (.int .i64 (wrap64 (x233001_3 + 1)))).heap[gb230]? = some (.cells #[.slice none 0 0, .int .i64 x231001_3, .int .i64 x231002_3] 52 (0, 0))) := ⟨zH42⟩
       have n3_ : Aside0 ((w57.setCell ⟨gb232, 1, none⟩ (.int .i64 (wrap64 (x233001_3 + 1)))).heap[gb232]? = some (.cells #[.slice Ao52 y243.length co52, .int .i64 (wrap64 (x233001_3 + 1)), .int .i64 x233002_3] 52 (0, 0))) := ⟨by (with_reducible repeat (first | refine zc ?_ _ | refine ze ?_ | refine zb ?_ _)); refine zw (cs := #[.slice Ao52 y243.length co52, .int .i64 x233001_3, .int .i64 x233002_3]) ?_ 1 _ rfl; (with_reducible repeat (first | refine zc ?_ _ | refine ze ?_ | refine zb ?_ _)); exact BK232.out⟩
       have n4_ : Aside0 (Below w.heap.size w (w57.setCell ⟨gb232, 1, none⟩ (.int .i64 (wrap64 (x233001_3 + 1))))) := ⟨zH54⟩
       (try clear HO_9)
       (try clear HO245)
       (try clear BK230)
       (try clear BK232)
       (try clear HB)
       generalize (w57.setCell ⟨gb232, 1, none⟩ (.int .i64 (wrap64 (x233001_3 + 1)))) = w60 at n0_ n1_ n2_ n3_ n4_ ⊢
       have HO_9 := n0_
       have HO245 := n1_
       have BK230 := n2_
       have BK232 := n3_
       have HB := n4_
       clear n0_ n1_ n2_ n3_ n4_
       obtain ⟨n0_, n1_, n2_, n3_, n4_⟩ := zD5 (zn HO_9.out) (zn HO245.out) (ze BK230.out) (ze BK232.out) (zg HB.out)
       clear HO_9 HO245 BK230 BK232 HB
       have HO_9 := n0_
       have HO245 := n1_
       have BK230 := n2_
       have BK232 := n3_
       have HB := n4_
       clear n0_ n1_ n2_ n3_ n4_
       have p250 : 0 ≤ (x11_3 : Int) := zO
       have q250 : x11_3 < (l2.length : Int) := zO
       obtain ⟨ad250, e250, hx250_0⟩ := zao HR2.out x11_3 p250 q250
       have hw250_0 := hx250_0
       obtain rfl : ad238 = ad250 := (by injection e250)
       replace hx250_0 := (HB.out.cell (zj w _ hx250_0)).trans hx250_0
       replace p250 := eq_true p250
       replace q250 := eq_true q250
       have p251 : 0 ≤ ((rd l2 x11_3) : Int) := zO
       have q251 : (rd l2 x11_3) < (l0.length : Int) := zO
       obtain ⟨ad251, A251_2, c251_2, e251, hx251_0, hx251_1, hx251_2, hl251_2, hi251_2⟩ := at_T58 HR0.out (rd l2 x11_3) p251 q251
       have hw251_2 := hx251_2
       have hw251_1 := hx251_1
       have hw251_0 := hx251_0
       obtain rfl : ad239 = ad251 := (by injection e251)
       replace hx251_0 := (HB.out.cell (zj w _ hx251_0)).trans hx251_0
       replace hx251_1 := (HB.out.cell (zj w _ hx251_1)).trans hx251_1
       replace hx251_2 := (HB.out.cell (zj w _ hx251_2)).trans hx251_2
       obtain ⟨HR251_2, HC251_2⟩ := zD2 hi251_2 hl251_2
       clear hi251_2 hl251_2
       replace p251 := eq_true p251
       replace q251 := eq_true q251
       refine start_ (n := 13) (S := fun w' => w'.cell? ⟨gb232, 0, none⟩ = some (.slice Ao52 y243.length co52) ∧ w'.cell? ⟨gb232, 1, none⟩ = some (.int .i64 (wrap64 (x233001_3 + 1))) ∧ w'.cell? ⟨gb232, 2, none⟩ = some (.int .i64 x233002_3) ∧ w'.cell? (ad238.add (x11_3).toNat) = some (.int .i64 (rd l2 x11_3)) ∧ w'.cell? (ad239.add (((rd l2 x11_3)).toNat * 3)) = some (.string ((rd_T58 l0 (rd l2 x11_3)).f0)) ∧ w'.cell? ⟨(ad239.add (((rd l2 x11_3)).toNat * 3)).block, (ad239.add (((rd l2 x11_3)).toNat * 3)).off + 1, none⟩ = some (.int .i64 ((rd_T58 l0 (rd l2 x11_3)).f1)) ∧ w'.cell? ⟨(ad239.add (((rd l2 x11_3)).toNat * 3)).block, (ad239.add (((rd l2 x11_3)).toNat * 3)).off + 2, none⟩ = some (.slice A251_2 ((rd_T58 l0 (rd l2 x11_3)).f2).length c251_2)) (ds := [12]) b10A0 zG106 rfl rfl ⟨(zi BK232.out 0).trans rfl, (zi BK232.out 1).trans rfl, (zi BK232.out 2).trans rfl, ((HB.out.cell (zj w _ hw250_0)).trans hw250_0), ((HB.out.cell (zj w _ hw251_0)).trans hw251_0), ((HB.out.cell (zj w _ hw251_1)).trans hw251_1), ((HB.out.cell (zj w _ hw251_2)).trans hw251_2)⟩ (fun hHeld => ?_); refine with_tabW spec_SourceOf.tab23 spec_SourceOf.bits23 (fun HT_ HW_ => ?_)
       generalize w60.drew = w61 at HO_9 HO245 BK230 BK232 HB HR251_2 hx250_0 hx251_0 hx251_1 hx251_2 hHeld ⊢
       refine zP 0 104 b10A1 HT_ ?_
       refine zP 2 106 #[true, false, true, false, false, false, false, false, false, false, false, false, false] HT_ ?_
       refine zP 3 107 #[true, false, true, true, false, false, false, false, false, false, false, false, false] HT_ ?_
       refine zP 4 108 #[true, false, true, true, true, false, false, false, false, false, false, false, false] HT_ ?_
       refine zP 5 109 #[true, false, true, true, true, true, false, false, false, false, false, false, false] HT_ ?_
       refine zQ 1 105 #[true, true, true, true, true, true, false, false, false, false, false, false, false] HT_ HW_ hHeld ?_
       refine zQ 6 110 #[true, true, true, true, true, true, true, false, false, false, false, false, false] HT_ HW_ hHeld ?_
       refine zP 7 111 #[true, true, true, true, true, true, true, true, false, false, false, false, false] HT_ ?_
       refine zP 8 112 #[true, true, true, true, true, true, true, true, true, false, false, false, false] HT_ ?_
       refine zQ 9 113 b10A2 HT_ HW_ hHeld ?_
       refine zP 10 114 b10A3 HT_ ?_
       refine zP 11 115 b10A4 HT_ ?_
       refine last_ (i := 12) (N := none) b10A5 rfl rfl (one_of HT_.out zG106) zG107 (fun K hK => ?_)
       have hs62 : w61.cell? ⟨gb232, 2, none⟩ = some (.int .i64 x233002_3) := (zi BK232.out 2).trans rfl
       have hfs62 := zk BK232.out 2
       have hns62_0 := NB230_232.out
       have hms62_0 := NB232_230.out
       refine skip_ (w1 := ?_) (by rfl) rfl ?_ ?_
       rotate_left
       ·go_simp
        rfl
       refine hK.out _ _ ?_
       clear hK K
       refine done_ (done_of HT_.out zG106) ?_
       try go_wp2
       go_roundg k3
       case measure => have := HJ3.out; have := HK2.out; have := HK3.out; omega
       case rel => exact ⟨(y249), (wrap64 (x11_3 + 1)), (x231001_3), (x231002_3), (y243), (wrap64 (x233001_3 + 1)), (wrap64 (x233002_3 + ((rd_T58 l0 (rd l2 x11_3)).f1))), (.slice Ao52 y243.length co52), zG105, H', ⟨by have := HJ3.out; have := HK2.out; have := HK3.out; omega⟩, ⟨by (with_reducible repeat (first | apply zl | apply zm | apply zn)); exact zx (zr (p := ⟨gb232, 2, none⟩) (zaa HO_9.out BK232.out zG107) (fun _ hk => hk.2) (.int .i64 (wrap64 (x233002_3 + ((rd_T58 l0 (rd l2 x11_3)).f1))))) (fun _ hk => trivial)⟩, ⟨by (with_reducible repeat (first | apply zl | apply zm | apply zn)); exact zx (zr (p := ⟨gb232, 2, none⟩) (zaa HO245.out BK232.out zG107) (fun _ hk => hk.2) (.int .i64 (wrap64 (x233002_3 + ((rd_T58 l0 (rd l2 x11_3)).f1))))) (fun _ hk => trivial)⟩, ⟨zH42⟩, ⟨by (with_reducible repeat (first | refine zc ?_ _ | refine ze ?_ | refine zb ?_ _)); refine zw (cs := #[.slice Ao52 y243.length co52, .int .i64 (wrap64 (x233001_3 + 1)), .int .i64 x233002_3]) ?_ 2 _ rfl; (with_reducible repeat (first | refine zc ?_ _ | refine ze ?_ | refine zb ?_ _)); exact BK232.out⟩, ⟨zH54⟩⟩
end Go.Proofs.Ytojncbpeeboooaa.V
