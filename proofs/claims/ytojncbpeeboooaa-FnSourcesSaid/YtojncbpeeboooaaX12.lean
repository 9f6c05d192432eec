-- squeezed
-- made by pp.py (wip/tools) out of the translation; Lean checks it
import Derived.Test.YtojncbpeeboooaaX0
import Derived.Test.YtojncbpeeboooaaX8
import Derived.Test.YtojncbpeeboooaaX11
namespace Go.Proofs.Ytojncbpeeboooaa.X
open Go.RowKit Go.Proofs.YtojncbpeeboooaaW.PrintWords Go.Proofs.YtojncbpeeboooaaW.PrintLast Go.Proofs.YtojncbpeeboooaaW.PrintMore
attribute [local go_sem] max2_int min2_int max_two min_two max_three min_three max_four min_four   -- for this text's walks alone
set_option linter.unusedVariables false
set_option linter.unusedSimpArgs false

abbrev b12A0 := zM 13 0
abbrev b12A1 := zM 13 1
abbrev b12A2 := zM 13 1023
abbrev b12A3 := zM 13 2047
abbrev b12A4 := zM 13 4095
abbrev b12A5 := zM 13 8191
abbrev b12A6 := zM 13 3
abbrev b12A7 := zM 13 7
abbrev b12A8 := zM 13 15
abbrev b12A9 := zM 13 143
abbrev b12A10 := zM 13 399
abbrev b12A11 := zM 13 911
abbrev b12A12 := zM 13 927
abbrev b12A13 := zM 13 959
abbrev b12A14 := zM 10 0
abbrev b12A15 := zM 10 1
abbrev b12A16 := zM 10 5
abbrev b12A17 := zM 10 13
abbrev b12A18 := zM 10 29
abbrev b12A19 := zM 10 31
abbrev b12A20 := zM 10 63
abbrev b12A21 := zM 10 127
abbrev b12A22 := zM 10 255
abbrev b12A23 := zM 10 511
abbrev b12A24 := zM 10 1023
/-! ### spec_SourceOf: function 135 -/
mutual
def spec_SourceOf.j0 : Nat → List (S58) → List (S124) → List Int → Bool → Option (List Int × Int × Int × Int)
 | 0, _, _, _, _ => none
 | k + 1, x0, x1, x2, x24 => if x24 = true then (some (([] : List Int), 0, 0, 2)) else ((spec_SourcesOK.f k x0 x1).bind fun t327 => (if t327 = true then (if (x2.length : Int) = (x1.length : Int) then (if 0 ≤ (x0.length : Int) then (if ((x0.length : Int) : Int).toNat ≤ 281474976710656 then (spec_SourceOf.l0 k x0 x1 x2 (List.replicate ((x0.length : Int) : Int).toNat false) 0 0 0) else (none)) else (none)) else (some (([] : List Int), 0, 0, 3))) else (some (([] : List Int), 0, 0, 1))))
def spec_SourceOf.l0 : Nat → List (S58) → List (S124) → List Int → List Bool → Int → Int → Int → Option (List Int × Int × Int × Int)
 | 0, _, _, _, _, _, _, _ => none
 | k + 1, x0, x1, x2, x9, x10, x329001, x329002 => if x10 < (x2.length : Int) then (if 0 ≤ x10 then ((spec_l01In.f (rd x2 x10) 0 (wrap64 ((x0.length : Int) - 1))).bind fun t333 => (if t333 = true then (spec_SourceOf.l0 k x0 x1 x2 x9 (wrap64 (x10 + 1)) x329001 x329002) else (some (([] : List Int), 0, 0, 3)))) else (none)) else (spec_SourceOf.l1 k x0 x1 x2 x9 0 ([] : List Int) x329001 x329002)
def spec_SourceOf.l1 : Nat → List (S58) → List (S124) → List Int → List Bool → Int → List Int → Int → Int → Option (List Int × Int × Int × Int)
 | 0, _, _, _, _, _, _, _, _ => none
 | k + 1, x0, x1, x2, x9, x11, x329000, x329001, x329002 => if x11 < (x2.length : Int) then (if 0 ≤ x11 then (if 0 ≤ (rd x2 x11) then (if (rd x2 x11) < (x0.length : Int) then (if x11 < (x1.length : Int) then ((spec_l23Has.f k ((rd_T58 x0 (rd x2 x11)).f0) ((rd_T58 x0 (rd x2 x11)).f1) ((rd_T58 x0 (rd x2 x11)).f2) ((rd_T124 x1 x11).f0) ((rd_T124 x1 x11).f1)).bind fun t337 => (if t337 = true then (if x329000.length < 17592186044416 then ((some (x329000 ++ [rd x2 x11] : List Int)).bind fun y339 => (if (rd x2 x11) < (x9.length : Int) then (if (rdOf false x9 (rd x2 x11) = true) then (spec_SourceOf.l1 k x0 x1 x2 x9 (wrap64 (x11 + 1)) y339 x329001 x329002) else (spec_SourceOf.l1 k x0 x1 x2 (x9.set ((rd x2 x11) : Int).toNat true) (wrap64 (x11 + 1)) y339 (wrap64 (x329001 + 1)) (wrap64 (x329002 + ((rd_T58 x0 (rd x2 x11)).f1))))) else (none))) else (none)) else (some (([] : List Int), 0, 0, 19)))) else (none)) else (none)) else (none)) else (none)) else (some (x329000, x329001, x329002, 0))
end
def spec_SourceOf.f (k : Nat) (l0 : List (S58)) (l1 : List (S124)) (l2 : List Int) : Option (List Int × Int × Int × Int) := if (l0.length : Int) > 4096 then (spec_SourceOf.j0 k l0 l1 l2 true) else (if (l1.length : Int) > 4096 then (spec_SourceOf.j0 k l0 l1 l2 true) else (spec_SourceOf.j0 k l0 l1 l2 (decide ((l2.length : Int) > 4096))))
theorem spec_SourceOf.mono_l : ∀ k, (∀ y0 y1 y2 y3, LeO (spec_SourceOf.j0 k y0 y1 y2 y3) (spec_SourceOf.j0 (k + 1) y0 y1 y2 y3)) ∧ (∀ y0 y1 y2 y3 y4 y5 y6, LeO (spec_SourceOf.l0 k y0 y1 y2 y3 y4 y5 y6) (spec_SourceOf.l0 (k + 1) y0 y1 y2 y3 y4 y5 y6)) ∧ (∀ y0 y1 y2 y3 y4 y5 y6 y7, LeO (spec_SourceOf.l1 k y0 y1 y2 y3 y4 y5 y6 y7) (spec_SourceOf.l1 (k + 1) y0 y1 y2 y3 y4 y5 y6 y7))
 | 0 => ⟨fun _ _ _ _ r h => by simp [spec_SourceOf.j0] at h, fun _ _ _ _ _ _ _ r h => by simp [spec_SourceOf.l0] at h, fun _ _ _ _ _ _ _ _ r h => by simp [spec_SourceOf.l1] at h⟩
 | k + 1 => by
  obtain ⟨ih0, ih1, ih2⟩ := spec_SourceOf.mono_l k
  refine ⟨?_, ?_, ?_⟩
  ·intro y0 y1 y2 y3
   unfold spec_SourceOf.j0
   repeat' first
   | (with_reducible exact ih0 _ _ _ _)
   | (with_reducible exact ih1 _ _ _ _ _ _ _)
   | (with_reducible exact ih2 _ _ _ _ _ _ _ _)
   | (with_reducible exact spec_SourcesOK.mono _ _ _)
   | (with_reducible exact spec_l23Has.mono _ _ _ _ _ _)
   | (with_reducible exact LeO.refl _)
   | (with_reducible exact LeO.none _)
   | (with_reducible refine LeO.ite ?_ ?_)
   | (with_reducible refine LeO.bind ?_ (fun _ => ?_))
   | exact ih0 _ _ _ _
   | exact ih1 _ _ _ _ _ _ _
   | exact ih2 _ _ _ _ _ _ _ _
   | exact spec_SourcesOK.mono _ _ _
   | exact spec_l23Has.mono _ _ _ _ _ _
   | exact LeO.none _
   | refine LeO.ite ?_ ?_
   | refine LeO.bind ?_ (fun _ => ?_)
  ·intro y0 y1 y2 y3 y4 y5 y6
   unfold spec_SourceOf.l0
   repeat' first
   | (with_reducible exact ih0 _ _ _ _)
   | (with_reducible exact ih1 _ _ _ _ _ _ _)
   | (with_reducible exact ih2 _ _ _ _ _ _ _ _)
   | (with_reducible exact spec_SourcesOK.mono _ _ _)
   | (with_reducible exact spec_l23Has.mono _ _ _ _ _ _)
   | (with_reducible exact LeO.refl _)
   | (with_reducible exact LeO.none _)
   | (with_reducible refine LeO.ite ?_ ?_)
   | (with_reducible refine LeO.bind ?_ (fun _ => ?_))
   | exact ih0 _ _ _ _
   | exact ih1 _ _ _ _ _ _ _
   | exact ih2 _ _ _ _ _ _ _ _
   | exact spec_SourcesOK.mono _ _ _
   | exact spec_l23Has.mono _ _ _ _ _ _
   | exact LeO.none _
   | refine LeO.ite ?_ ?_
   | refine LeO.bind ?_ (fun _ => ?_)
  ·intro y0 y1 y2 y3 y4 y5 y6 y7
   unfold spec_SourceOf.l1
   repeat' first
   | (with_reducible exact ih0 _ _ _ _)
   | (with_reducible exact ih1 _ _ _ _ _ _ _)
   | (with_reducible exact ih2 _ _ _ _ _ _ _ _)
   | (with_reducible exact spec_SourcesOK.mono _ _ _)
   | (with_reducible exact spec_l23Has.mono _ _ _ _ _ _)
   | (with_reducible exact LeO.refl _)
   | (with_reducible exact LeO.none _)
   | (with_reducible refine LeO.ite ?_ ?_)
   | (with_reducible refine LeO.bind ?_ (fun _ => ?_))
   | exact ih0 _ _ _ _
   | exact ih1 _ _ _ _ _ _ _
   | exact ih2 _ _ _ _ _ _ _ _
   | exact spec_SourcesOK.mono _ _ _
   | exact spec_l23Has.mono _ _ _ _ _ _
   | exact LeO.none _
   | refine LeO.ite ?_ ?_
   | refine LeO.bind ?_ (fun _ => ?_)
theorem spec_SourceOf.mono : ∀ a0 a1 a2 k, LeO (spec_SourceOf.f k a0 a1 a2) (spec_SourceOf.f (k + 1) a0 a1 a2) := by
 intro a0 a1 a2 k
 obtain ⟨ih0, ih1, ih2⟩ := spec_SourceOf.mono_l k
 unfold spec_SourceOf.f
 repeat' first
   | (with_reducible exact ih0 _ _ _ _)
   | (with_reducible exact ih1 _ _ _ _ _ _ _)
   | (with_reducible exact ih2 _ _ _ _ _ _ _ _)
   | (with_reducible exact spec_SourcesOK.mono _ _ _)
   | (with_reducible exact spec_l23Has.mono _ _ _ _ _ _)
   | (with_reducible exact LeO.refl _)
   | (with_reducible exact LeO.none _)
   | (with_reducible refine LeO.ite ?_ ?_)
   | (with_reducible refine LeO.bind ?_ (fun _ => ?_))
   | exact ih0 _ _ _ _
   | exact ih1 _ _ _ _ _ _ _
   | exact ih2 _ _ _ _ _ _ _ _
   | exact spec_SourcesOK.mono _ _ _
   | exact spec_l23Has.mono _ _ _ _ _ _
   | exact LeO.none _
   | refine LeO.ite ?_ ?_
   | refine LeO.bind ?_ (fun _ => ?_)
def spec_SourceOf.T17 : Bool × List (List Nat × List Nat) := (true, [([], []), ([], []), ([], []), ([1, 2], [1, 2]), ([3], [3]), ([0, 4], [0, 4]), ([5], [5]), ([], []), ([], []), ([7, 8], [7, 8]), ([9], [9]), ([6, 10], [6, 10]), ([11], [11])])
def spec_SourceOf.B17 : List Nat := [0, 0, 0, 6, 14, 31, 63, 0, 0, 384, 896, 2047, 4095]
theorem spec_SourceOf.tab17 : rtab .any (opsOf Try.f135 17) = spec_SourceOf.T17 := by kernel_rfl
theorem spec_SourceOf.bits17 : waitsOk spec_SourceOf.T17.2 spec_SourceOf.B17 = true := by kernel_rfl
def spec_SourceOf.T19 : Bool × List (List Nat × List Nat) := (true, [([], []), ([0], [0]), ([], []), ([], []), ([2, 3], [2, 3]), ([4], [4]), ([5], [5]), ([1, 6], [1, 6]), ([0, 1, 2, 3, 4, 5, 6, 7], []), ([8, 7, 7, 0, 1, 2, 3, 4, 5, 6, 7], [7, 8])])
def spec_SourceOf.B19 : List Nat := [0, 1, 0, 0, 12, 28, 60, 127, 255, 511]
theorem spec_SourceOf.tab19 : rtab .any (opsOf Try.f135 19) = spec_SourceOf.T19 := by kernel_rfl
theorem spec_SourceOf.bits19 : waitsOk spec_SourceOf.T19.2 spec_SourceOf.B19 = true := by kernel_rfl
def spec_SourceOf.T23 : Bool × List (List Nat × List Nat) := (true, [([], []), ([0], [0]), ([], []), ([], []), ([], []), ([3, 4], [3, 4]), ([5], [5]), ([2, 6], [2, 6]), ([7], [7]), ([8], [8]), ([1, 9], [1, 9]), ([0, 1, 2, 3, 4, 5, 6, 7, 8, 9, 10], []), ([11, 10, 0, 1, 2, 3, 4, 5, 6, 7, 8, 9, 10], [10, 11])])
def spec_SourceOf.B23 : List Nat := [0, 1, 0, 0, 0, 24, 56, 124, 252, 508, 1023, 2047, 4095]
theorem spec_SourceOf.tab23 : rtab .any (opsOf Try.f135 23) = spec_SourceOf.T23 := by kernel_rfl
theorem spec_SourceOf.bits23 : waitsOk spec_SourceOf.T23.2 spec_SourceOf.B23 = true := by kernel_rfl
set_option maxHeartbeats 64000000 in
set_option maxRecDepth 100000 in
theorem spec_SourceOf.calls (k : Nat) (A0 : Option Addr) (c0 : Nat) (l0 : List (S58)) (A1 : Option Addr) (c1 : Nat) (l1 : List (S124)) (A2 : Option Addr) (c2 : Nat) (l2 : List Int) (r1 : List Int) (r2 : Int) (r3 : Int) (r4 : Int) (w : World) (hr0 : Kd.C k58 w A0 l0.length l0) (hc0 : l0.length ≤ c0) (hr1 : Kd.C k124 w A1 l1.length l1) (hc1 : l1.length ≤ c1) (hr2 : Kd.C (Kd.int .i64) w A2 l2.length l2) (hc2 : l2.length ≤ c2) (h : spec_SourceOf.f k l0 l1 l2 = some (r1, r2, r3, r4)) :
  Calls Try.prog 135 #[.slice A0 l0.length c0, .slice A1 l1.length c1, .slice A2 l2.length c2] w fun e w' => ∃ v0_ : Value, e = .returned (.tuple #[.agg #[v0_, .int .i64 r2, .int .i64 r3], .int .i64 r4]) ∧ Kd.R (Kd.int .i64) 3 w' w.heap.size (fun _ => True) v0_ r1 ∧ Below w.heap.size w w' := by
 have hu52 := Try.underlying52
 have hu58 := Try.underlying58
 have hu124 := Try.underlying124
 obtain ⟨HR0, HC0, HR1, HC1, HR2, HC2, HB⟩ := zD7 hr0 hc0 hr1 hc1 hr2 hc2 (Below.refl w.heap.size w)
 clear hr0 hc0 hr1 hc1 hr2 hc2
 have H : (if (l0.length : Int) > 4096 then (spec_SourceOf.j0 k l0 l1 l2 true) else (if (l1.length : Int) > 4096 then (spec_SourceOf.j0 k l0 l1 l2 true) else (spec_SourceOf.j0 k l0 l1 l2 (decide ((l2.length : Int) > 4096))))) = some (r1, r2, r3, r4) := h
 clear h
 have HC4 := za H
 clear H
 go_enter Try.func135, Try.ntmps135
 go_upto_region 1 with (first | ((with_reducible refine gate_dst (N := 6) rfl ?_); (try (refine gate_guard (by rfl) ?_; dsimp only)); refine box_event ?hg (N := 6) ?hd (cs := #[.slice none 0 0, .int .i64 0, .int .i64 0]) (t := 52) ?hr ?_; (case hd => rfl); (case hg => rfl); (case hr => exact zH119); intro gb326 hg w5 hbox hb; have n_ := zA_ (za (zu zG102 hb)) (zA_ (za (hbox)) (zA_ (zN1 w.heap.size hg (zq zG102)) (zN1 w.heap.size hg (zq zG102)))); clear HB; obtain ⟨HB, BK326, GW326, GE326⟩ := n_; clear hb hbox hg))
 (try simp only [Act.put, List.setIfInBounds_toArray, List.set_cons_zero, List.set_cons_succ])
 go_cut [24] (fun v24 wc => ∃ (kq : Nat) (x24_3 : Bool), v24 = .bool x24_3 ∧ Aside0 (spec_SourceOf.j0 kq l0 l1 l2 x24_3 = some (r1, r2, r3, r4)) ∧ Aside0 (kq ≤ k) ∧ Aside0 (wc.heap[gb326]? = some (.cells #[(.slice none 0 0), .int .i64 0, .int .i64 0] 52 (0, 0))) ∧ Aside0 (Below w.heap.size w wc))
 case first =>
  have H := HC4.out
  clear HC4
  by_cases c6 : (l0.length : Int) > 4096
  ·rw [if_pos c6] at H
   have c6b0 : decide (4096 < (l0.length : Int)) = true := decide_eq_true c6
   have c6b1 : decide (4096 < l0.length) = true := decide_eq_true (by omega)
   clear c6
   (first | rw [c6b0] | (simp only [i64_w, i32_w]; rw [c6b0]) | skip)
   have H' := za H
   clear H
   go_wp2
   go_meet
   case rel => exact ⟨_, (true), zG127, H', ⟨zH120⟩, ⟨zH101⟩, ⟨zH82⟩⟩
  rw [if_neg c6] at H
  have c6b0 : decide (4096 < (l0.length : Int)) = false := decide_eq_false c6
  have c6b1 : decide (4096 < l0.length) = false := decide_eq_false (by omega)
  clear c6
  (first | rw [c6b0] | (simp only [i64_w, i32_w]; rw [c6b0]) | skip)
  by_cases c7 : (l1.length : Int) > 4096
  rotate_left
  ·rw [if_neg c7] at H
   have c7b0 : decide (4096 < (l1.length : Int)) = false := decide_eq_false c7
   have c7b1 : decide (4096 < l1.length) = false := decide_eq_false (by omega)
   clear c7
   have H' := za H
   clear H
   go_wp2
   go_meet
   case rel => exact ⟨_, (decide ((l2.length : Int) > 4096)), zG127, H', ⟨zH120⟩, ⟨zH101⟩, ⟨zH82⟩⟩
  rw [if_pos c7] at H
  have c7b0 : decide (4096 < (l1.length : Int)) = true := decide_eq_true c7
  have c7b1 : decide (4096 < l1.length) = true := decide_eq_true (by omega)
  clear c7
  have H' := za H
  clear H
  go_wp2
  go_meet
  case rel => exact ⟨_, (true), zG127, H', ⟨zH120⟩, ⟨zH101⟩, ⟨zH82⟩⟩
 case rest =>
  clear HC4
  try clear c1
  try clear c2
  try clear c6
  try clear c6b0
  try clear c6b1
  try clear c7
  try clear c7b0
  try clear c7b1
  obtain ⟨kq, x24_3, rfl, HA, HJ3, BK326, HB⟩ := hcut
  cases kq with
  | zero => exact absurd HA.out (by simp [spec_SourceOf.j0])
  | succ kj3 =>
   have H := HA.out
   clear HA
   simp only [spec_SourceOf.j0] at H
   by_cases c8 : x24_3 = true
   ·subst c8
    have H1 : (some (([] : List Int), 0, 0, 2)) = some (r1, r2, r3, r4) := by rw [if_pos rfl] at H; exact H
    clear H
    have H := H1
    clear H1
    simp only [Option.some.injEq, Prod.mk.injEq] at H
    obtain ⟨rfl, rfl, rfl, rfl⟩ := H
    obtain ⟨hcz9_0, hcz9_1, hcz9_2, hfz9_0, hfz9_1, hfz9_2⟩ := zB3 BK326.out
    go_wp2
    refine bodyPost_ret (results_ct rfl _ _ gb326 52 #[.slice none 0 0, .int .i64 0, .int .i64 0] (0, 0) _ rfl zK139 Try.underlying52 rfl zG128) rfl ?_
    exact zH12
   replace c8 := Bool.eq_false_iff.mpr c8
   subst c8
   have H1 : ((spec_SourcesOK.f kj3 l0 l1).bind fun t327 => (if t327 = true then (if (l2.length : Int) = (l1.length : Int) then (if 0 ≤ (l0.length : Int) then (if ((l0.length : Int) : Int).toNat ≤ 281474976710656 then (spec_SourceOf.l0 kj3 l0 l1 l2 (List.replicate ((l0.length : Int) : Int).toNat false) 0 0 0) else (none)) else (none)) else (some (([] : List Int), 0, 0, 3))) else (some (([] : List Int), 0, 0, 1)))) = some (r1, r2, r3, r4) := by rw [if_neg (show ¬ (false = true) by decide)] at H; exact H
   clear H
   have H := H1
   clear H1
   replace H := Option.bind_eq_some_iff.mp H
   obtain ⟨t327, A100, H⟩ := H
   replace H : (if t327 = true then (if (l2.length : Int) = (l1.length : Int) then (if 0 ≤ (l0.length : Int) then (if ((l0.length : Int) : Int).toNat ≤ 281474976710656 then (spec_SourceOf.l0 kj3 l0 l1 l2 (List.replicate ((l0.length : Int) : Int).toNat false) 0 0 0) else (none)) else (none)) else (some (([] : List Int), 0, 0, 3))) else (some (([] : List Int), 0, 0, 1))) = some (r1, r2, r3, r4) := H
   have A10 := za A100
   clear A100
   by_cases c11 : t327 = true
   rotate_left
   ·replace c11 := Bool.eq_false_iff.mpr c11
    subst c11
    have H1 : (some (([] : List Int), 0, 0, 1)) = some (r1, r2, r3, r4) := by rw [if_neg (show ¬ (false = true) by decide)] at H; exact H
    clear H
    have H := H1
    clear H1
    simp only [Option.some.injEq, Prod.mk.injEq] at H
    obtain ⟨rfl, rfl, rfl, rfl⟩ := H
    go_wp2_with (first | ((with_reducible refine gate_callee (f := 90) rfl ?_); refine goesL_ (some 28) rfl rfl Try.func90 zG128 rfl #[.slice A0 l0.length c0, .slice A1 l1.length c1] rfl zG97 ?_; (with_reducible refine (spec_SourcesOK.calls kj3 _ _ l0 _ _ l1 false _ ?side1 ?side2 ?side3 ?side4 A10.out).mono ?_); (case side1 => exact zH67); (case side2 => exact zH128); (case side3 => exact zH66); (case side4 => exact zH127); rintro e w73 ⟨rfl, hb⟩; refine ⟨_, rfl, ?_⟩; have n_ := zA_ (za (zp (g := gb326) (o := .cells #[.slice none 0 0, .int .i64 0, .int .i64 0] 52 (0, 0)) zG107 hb)) (za (zu zK218 hb)); clear BK326 HB; obtain ⟨BK326, HB⟩ := n_; (try clear hb); obtain ⟨hcz74_0, hcz74_1, hcz74_2, hfz74_0, hfz74_1, hfz74_2⟩ := zB3 BK326.out))
    refine bodyPost_ret (results_ct rfl _ _ gb326 52 #[.slice none 0 0, .int .i64 0, .int .i64 0] (0, 0) _ rfl zK139 Try.underlying52 rfl zG128) rfl ?_
    exact zH12

   subst c11
   have H1 : (if (l2.length : Int) = (l1.length : Int) then (if 0 ≤ (l0.length : Int) then (if ((l0.length : Int) : Int).toNat ≤ 281474976710656 then (spec_SourceOf.l0 kj3 l0 l1 l2 (List.replicate ((l0.length : Int) : Int).toNat false) 0 0 0) else (none)) else (none)) else (some (([] : List Int), 0, 0, 3))) = some (r1, r2, r3, r4) := by rw [if_pos rfl] at H; exact H
   clear H
   have H := H1
   clear H1
   by_cases c12 : (l2.length : Int) = (l1.length : Int)
   rotate_left
   ·rw [if_neg c12] at H
    have c12b0 : ((l2.length : Int) == (l1.length : Int)) = false := beq_eq_false_iff_ne.mpr c12
    have c12b1 : ((l2.length : Int) != (l1.length : Int)) = true := bne_iff_ne.mpr c12
    have c12b2 : (l2.length == l1.length) = false := by first | simpa using c12 | (simp at c12 ⊢; omega)
    simp only [Option.some.injEq, Prod.mk.injEq] at H
    obtain ⟨rfl, rfl, rfl, rfl⟩ := H
    go_wp2_with (first | ((with_reducible refine gate_callee (f := 90) rfl ?_); refine goesL_ (some 28) rfl rfl Try.func90 zG128 rfl #[.slice A0 l0.length c0, .slice A1 l1.length c1] rfl zG97 ?_; (with_reducible refine (spec_SourcesOK.calls kj3 _ _ l0 _ _ l1 true _ ?side1 ?side2 ?side3 ?side4 A10.out).mono ?_); (case side1 => exact zH67); (case side2 => exact zH128); (case side3 => exact zH66); (case side4 => exact zH127); rintro e w71 ⟨rfl, hb⟩; refine ⟨_, rfl, ?_⟩; have n_ := zA_ (za (zp (g := gb326) (o := .cells #[.slice none 0 0, .int .i64 0, .int .i64 0] 52 (0, 0)) zG107 hb)) (za (zu zK218 hb)); clear BK326 HB; obtain ⟨BK326, HB⟩ := n_; (try clear hb); obtain ⟨hcz72_0, hcz72_1, hcz72_2, hfz72_0, hfz72_1, hfz72_2⟩ := zB3 BK326.out))
    refine bodyPost_ret (results_ct rfl _ _ gb326 52 #[.slice none 0 0, .int .i64 0, .int .i64 0] (0, 0) _ rfl zK139 Try.underlying52 rfl zG128) rfl ?_
    exact zH12
   rw [if_pos c12] at H
   have c12b0 : ((l2.length : Int) == (l1.length : Int)) = true := beq_iff_eq.mpr c12
   have c12b1 : ((l2.length : Int) != (l1.length : Int)) = false := bne_eq_false_iff_eq.mpr c12
   have c12b2 : (l2.length == l1.length) = true := by first | simpa using c12 | (simp at c12 ⊢; omega)
   clear c12
   by_cases c13 : 0 ≤ (l0.length : Int)
   rotate_left
   ·rw [if_neg c13] at H
    exact absurd H (by simp)
   rw [if_pos c13] at H
   have c13b0 := eq_true c13
   have c13b1 := decide_eq_true c13
   clear c13
   by_cases c14 : ((l0.length : Int) : Int).toNat ≤ 281474976710656
   rotate_left
   ·rw [if_neg c14] at H
    exact absurd H (by simp)
   rw [if_pos c14] at H
   have c14b0 := eq_true c14
   have c14b1 := decide_eq_true c14
   clear c14
   obtain ⟨y329, hy329⟩ : ∃ y_ : List Bool, y_ = (List.replicate ((l0.length : Int) : Int).toNat false) := ⟨_, rfl⟩
   replace H : (spec_SourceOf.l0 kj3 l0 l1 l2 y329 0 0 0) = some (r1, r2, r3, r4) := by first | (rw [hy329]; with_reducible exact H) | (have H2_ := (Option.bind_some _ _).symm.trans H; rw [hy329]; with_reducible exact H2_) | (have H2_ := (Option.bind_some _ _).symm.trans H; with_reducible exact H2_) | with_reducible exact H | (rw [hy329]; exact H) | exact H
   have Ny329 := za hy329
   clear hy329
   have H' := za H
   clear H
   go_wp2_with (first | ((with_reducible refine gate_callee (f := 90) rfl ?_); refine goesL_ (some 28) rfl rfl Try.func90 zG128 rfl #[.slice A0 l0.length c0, .slice A1 l1.length c1] rfl zG97 ?_; (with_reducible refine (spec_SourcesOK.calls kj3 _ _ l0 _ _ l1 true _ ?side1 ?side2 ?side3 ?side4 A10.out).mono ?_); (case side1 => exact zH67); (case side2 => exact zH128); (case side3 => exact zH66); (case side4 => exact zH127); rintro e w15 ⟨rfl, hb⟩; refine ⟨_, rfl, ?_⟩; have n_ := zA_ (za (zp (g := gb326) (o := .cells #[.slice none 0 0, .int .i64 0, .int .i64 0] 52 (0, 0)) zG107 hb)) (za (zu zK218 hb)); clear BK326 HB; obtain ⟨BK326, HB⟩ := n_; (try clear hb); (try clear hk)) | ((with_reducible refine gate_dst (N := 8) rfl ?_); (try (refine gate_guard (by rfl) ?_; dsimp only)); refine box_event ?hg (N := 8) ?hd (cs := #[.slice none 0 0, .int .i64 0, .int .i64 0]) (t := 52) ?hr ?_; (case hd => rfl); (case hg => rfl); (case hr => exact zH119); intro gb328 hg w16 hbox hb; have n_ := zA_ (za (zp (g := gb326) (o := .cells #[.slice none 0 0, .int .i64 0, .int .i64 0] 52 (0, 0)) zG107 hb)) (zA_ (za (zu zK218 hb)) (zA_ (za (hbox)) (zA_ (zN1 w.heap.size hg (zq zK218)) (zA_ (zN1 w.heap.size hg (zq zK218)) (zN2 hg (zz (g := gb326) (o := .cells #[.slice none 0 0, .int .i64 0, .int .i64 0] 52 (0, 0)) zG107)))))); clear BK326 HB; obtain ⟨BK326, HB, BK328, GW328, GE328, NB326_328, NB328_326⟩ := n_; clear hb hbox hg; have hnb17 := NB328_326.out; have hnc17 := NB326_328.out; obtain ⟨hcz18_0, hcz18_1, hcz18_2, hfz18_0, hfz18_1, hfz18_2⟩ := zB3 BK328.out) | ((with_reducible refine gate_dst (N := 40) rfl ?_); (try (refine gate_guard (by rfl) ?_; dsimp only)); refine Kd.R_make Kd.bool _ 4 rfl (N := 40) rfl 185 _ _ rfl (l0.length : Int) rfl rfl Try.underlying185 (.bool false) 1 info4 rfl zG129 (by omega) false (ok := fun _ => True) (okp := fun _ => True) rfl (fun _ hk => hk) trivial zO (Nat.le_trans (Nat.mul_le_mul_right _ (zO : (l0.length : Int).toNat ≤ 281474976710656)) (by omega)) (Below.refl _ _) (Nat.le_refl _) ?_; intro v330 w19 ho20 hb hg_ hnew_; clear hg_ hnew_; (first | rw [← Ny329.out] at ho20 | (simp only [Int.reduceToNat] at ho20; rw [← Ny329.out] at ho20)); have n_ := zA_ (za (zam ho20 (zq zG94))) (zA_ (za (zp (g := gb326) (o := .cells #[.slice none 0 0, .int .i64 0, .int .i64 0] 52 (0, 0)) (by (with_reducible repeat (first | refine zc ?_ _ | refine zd ?_ | refine zb ?_ _)); refine zr ?_ NB326_328.out _; (with_reducible repeat (first | refine zc ?_ _ | refine zd ?_ | refine zb ?_ _)); refine zr ?_ NB326_328.out _; (with_reducible repeat (first | refine zc ?_ _ | refine zd ?_ | refine zb ?_ _)); refine zr ?_ NB326_328.out _; (with_reducible repeat (first | refine zc ?_ _ | refine zd ?_ | refine zb ?_ _)); exact BK326.out) hb)) (zA_ (za (zp (g := gb328) (o := .cells #[.slice none 0 0, .int .i64 0, .int .i64 0] 52 (0, 0)) (by (with_reducible repeat (first | refine zc ?_ _ | refine zd ?_ | refine zb ?_ _)); refine zw (cs := #[.slice none 0 0, .int .i64 0, .int .i64 0]) ?_ 2 _ rfl; (with_reducible repeat (first | refine zc ?_ _ | refine zd ?_ | refine zb ?_ _)); refine zw (cs := #[.slice none 0 0, .int .i64 0, .int .i64 0]) ?_ 1 _ rfl; (with_reducible repeat (first | refine zc ?_ _ | refine zd ?_ | refine zb ?_ _)); refine zw (cs := #[.slice none 0 0, .int .i64 0, .int .i64 0]) ?_ 0 _ rfl; (with_reducible repeat (first | refine zc ?_ _ | refine zd ?_ | refine zb ?_ _)); exact BK328.out) hb)) (za (zu zG94 hb)))); clear BK326 BK328 HB; obtain ⟨HO331, BK326, BK328, HB⟩ := n_; clear hb ho20))
   go_loopg [10] kj3 (fun kq v10 w' => ∃ (x10_2 : Int) (x327001_2 : Int) (x327002_2 : Int), v10 = .int .i64 x10_2 ∧ Aside0 (spec_SourceOf.l0 kq l0 l1 l2 y329 x10_2 0 0 = some (r1, r2, r3, r4)) ∧ Aside0 (kq ≤ kj3) ∧ Aside0 (Kd.R Kd.bool 4 w' w.heap.size (fun _ => True) v330 y329) ∧ Aside0 (w'.heap[gb326]? = some (.cells #[(.slice none 0 0), .int .i64 x327001_2, .int .i64 x327002_2] 52 (0, 0))) ∧ Aside0 (w'.heap[gb328]? = some (.cells #[(.slice none 0 0), .int .i64 0, .int .i64 0] 52 (0, 0))) ∧ Aside0 (Below w.heap.size w w'))
   case atStart => exact ⟨(0), (0), (0), zG127, H', ⟨Nat.le_refl _⟩, ⟨by (with_reducible repeat (first | apply zj | apply zk | apply zl)); exact HO331.out⟩, ⟨zH101⟩, ⟨zH99⟩, ⟨zH55⟩⟩
   case round =>
    clear H'
    try clear c1
    try clear c2
    try clear c6
    try clear c6b0
    try clear c6b1
    try clear c7
    try clear c7b0
    try clear c7b1
    try clear c8
    try clear c11
    try clear c12
    try clear c12b0
    try clear c12b1
    try clear c12b2
    try clear c13
    try clear c13b0
    try clear c13b1
    try clear c14
    try clear c14b0
    try clear c14b1
    try clear hcz18_0
    try clear hcz18_1
    try clear hcz18_2
    try clear hcz9_0
    try clear hcz9_1
    try clear hcz9_2
    try clear hfz18_0
    try clear hfz18_1
    try clear hfz18_2
    try clear hfz9_0
    try clear hfz9_1
    try clear hfz9_2
    obtain ⟨x10_2, x327001_2, x327002_2, rfl, HA, HK2, HO_9, BK326, BK328, HB⟩ := hrel
    cases gk with
    | zero => exact absurd HA.out (by simp [spec_SourceOf.l0])
    | succ k2 =>
     have H := HA.out
     clear HA
     simp only [spec_SourceOf.l0] at H
     by_cases c21 : x10_2 < (l2.length : Int)
     ·rw [if_pos c21] at H
      have c21b0 := decide_eq_true c21
      clear c21
      by_cases c22 : 0 ≤ x10_2
      rotate_left
      ·rw [if_neg c22] at H
       exact absurd H (by simp)
      rw [if_pos c22] at H
      have c22b0 := decide_eq_true c22
      clear c22
      replace H := Option.bind_eq_some_iff.mp H
      obtain ⟨t333, A230, H⟩ := H
      replace H : (if t333 = true then (spec_SourceOf.l0 k2 l0 l1 l2 y329 (wrap64 (x10_2 + 1)) 0 0) else (some (([] : List Int), 0, 0, 3))) = some (r1, r2, r3, r4) := H
      have A23 := za A230
      clear A230
      by_cases c24 : t333 = true
      rotate_left
      ·replace c24 := Bool.eq_false_iff.mpr c24
       subst c24
       have H1 : (some (([] : List Int), 0, 0, 3)) = some (r1, r2, r3, r4) := by rw [if_neg (show ¬ (false = true) by decide)] at H; exact H
       clear H
       have H := H1
       clear H1
       simp only [Option.some.injEq, Prod.mk.injEq] at H
       obtain ⟨rfl, rfl, rfl, rfl⟩ := H
       have p332 : 0 ≤ (x10_2 : Int) := zO
       have q332 : x10_2 < (l2.length : Int) := zO
       obtain ⟨ad332, e332, hx332_0⟩ := zbc HR2.out x10_2 p332 q332
       cases e332
       replace hx332_0 := (HB.out.cell (zn w _ hx332_0)).trans hx332_0
       replace p332 := eq_true p332
       replace q332 := eq_true q332
       go_wp2_with (first | ((with_reducible refine gate_callee (f := 122) rfl ?_); refine goesL_ (some 54) rfl rfl Try.func122 zG128 rfl #[.int .i64 (rd l2 x10_2), .int .i64 0, .int .i64 (wrap64 ((l0.length : Int) - 1))] rfl zG97 ?_; (with_reducible refine (spec_l01In.calls (rd l2 x10_2) 0 (wrap64 ((l0.length : Int) - 1)) false _ A23.out).mono ?_); rintro e w' ⟨rfl, ⟨nd, rfl⟩⟩; refine ⟨_, rfl, ?_⟩; (try (rw [drewN_self wr]; generalize hq_ : World.drewN wr _ = wr; have n0_ : Aside0 (Kd.R Kd.bool 4 wr w.heap.size (fun _ => True) v330 y329) := ⟨by rw [← hq_]; exact zK254⟩; have n1_ : Aside0 (wr.heap[gb326]? = some (.cells #[.slice none 0 0, .int .i64 x327001_2, .int .i64 x327002_2] 52 (0, 0))) := ⟨by rw [← hq_]; exact zG107⟩; have n2_ : Aside0 (wr.heap[gb328]? = some (.cells #[.slice none 0 0, .int .i64 0, .int .i64 0] 52 (0, 0))) := ⟨by rw [← hq_]; exact zK234⟩; have n3_ : Aside0 (Below w.heap.size w wr) := ⟨by rw [← hq_]; exact zG94⟩; clear HO_9 BK326 BK328 HB hq_; have HO_9 := n0_; have BK326 := n1_; have BK328 := n2_; have HB := n3_; clear n0_ n1_ n2_ n3_)); (try have hcu25_0 : wr.cell? ⟨gb326, 0, none⟩ = some (.slice none 0 0) := (zi BK326.out 0).trans rfl); (try have hcu25_1 : wr.cell? ⟨gb326, 1, none⟩ = some (.int .i64 x327001_2) := (zi BK326.out 1).trans rfl); (try have hcu25_2 : wr.cell? ⟨gb326, 2, none⟩ = some (.int .i64 x327002_2) := (zi BK326.out 2).trans rfl); (try have hfcu25_0 := zm BK326.out 0); (try have hfcu25_1 := zm BK326.out 1); (try have hfcu25_2 := zm BK326.out 2); (try have hcu26_0 : wr.cell? ⟨gb328, 0, none⟩ = some (.slice none 0 0) := (zi BK328.out 0).trans rfl); (try have hcu26_1 : wr.cell? ⟨gb328, 1, none⟩ = some (.int .i64 0) := (zi BK328.out 1).trans rfl); (try have hcu26_2 : wr.cell? ⟨gb328, 2, none⟩ = some (.int .i64 0) := (zi BK328.out 2).trans rfl); (try have hfcu26_0 := zm BK328.out 0); (try have hfcu26_1 := zm BK328.out 1); (try have hfcu26_2 := zm BK328.out 2); have hnb27 := NB326_328.out; have hnc27 := NB328_326.out; obtain ⟨hcz28_0, hcz28_1, hcz28_2, hfz28_0, hfz28_1, hfz28_2⟩ := zB3 BK326.out))
       refine bodyPost_ret (results_ct rfl _ _ gb326 52 #[.slice none 0 0, .int .i64 0, .int .i64 0] (0, 0) _ rfl (by (with_reducible repeat (first | refine zc ?_ _ | refine zd ?_ | refine zb ?_ _)); refine zw (cs := #[.slice none 0 0, .int .i64 0, .int .i64 x327002_2]) ?_ 2 _ rfl; (with_reducible repeat (first | refine zc ?_ _ | refine zd ?_ | refine zb ?_ _)); refine zw (cs := #[.slice none 0 0, .int .i64 x327001_2, .int .i64 x327002_2]) ?_ 1 _ rfl; (with_reducible repeat (first | refine zc ?_ _ | refine zd ?_ | refine zb ?_ _)); refine zw (cs := #[.slice none 0 0, .int .i64 x327001_2, .int .i64 x327002_2]) ?_ 0 _ rfl; (with_reducible repeat (first | refine zc ?_ _ | refine zd ?_ | refine zb ?_ _)); exact BK326.out) Try.underlying52 rfl zG128) rfl ?_
       exact zH8
      subst c24
      have H1 : (spec_SourceOf.l0 k2 l0 l1 l2 y329 (wrap64 (x10_2 + 1)) 0 0) = some (r1, r2, r3, r4) := by rw [if_pos rfl] at H; exact H
      clear H
      have H := H1
      clear H1
      have H' := za H
      clear H
      have p332 : 0 ≤ (x10_2 : Int) := zO
      have q332 : x10_2 < (l2.length : Int) := zO
      obtain ⟨ad332, e332, hx332_0⟩ := zbc HR2.out x10_2 p332 q332
      cases e332
      replace hx332_0 := (HB.out.cell (zn w _ hx332_0)).trans hx332_0
      replace p332 := eq_true p332
      replace q332 := eq_true q332
      go_wp2_with (first | ((with_reducible refine gate_callee (f := 122) rfl ?_); refine goesL_ (some 54) rfl rfl Try.func122 zG128 rfl #[.int .i64 (rd l2 x10_2), .int .i64 0, .int .i64 (wrap64 ((l0.length : Int) - 1))] rfl zG97 ?_; (with_reducible refine (spec_l01In.calls (rd l2 x10_2) 0 (wrap64 ((l0.length : Int) - 1)) true _ A23.out).mono ?_); rintro e w' ⟨rfl, ⟨nd, rfl⟩⟩; refine ⟨_, rfl, ?_⟩))
      go_roundg k2
      case measure => have := HJ3.out; have := HK2.out; omega
      case rel => exact ⟨(wrap64 (x10_2 + 1)), (x327001_2), (x327002_2), zG127, H', ⟨by have := HJ3.out; have := HK2.out; omega⟩, ⟨zH113⟩, ⟨zH101⟩, ⟨zH99⟩, ⟨zH55⟩⟩
     rw [if_neg c21] at H
     have c21b0 := decide_eq_false c21
     clear c21
     have H' := za H
     clear H
     go_wp2
     go_loopg [11] k2 (fun kq v11 w' => ∃ (x9_3 : List Bool) (x11_3 : Int) (x327001_3 : Int) (x327002_3 : Int) (x329000_3 : List Int) (x329001_3 : Int) (x329002_3 : Int) (u329000 : Value), v11 = .int .i64 x11_3 ∧ Aside0 (spec_SourceOf.l1 kq l0 l1 l2 x9_3 x11_3 x329000_3 x329001_3 x329002_3 = some (r1, r2, r3, r4)) ∧ Aside0 (kq ≤ k2) ∧ Aside0 (Kd.R Kd.bool 4 w' w.heap.size (fun _ => True) v330 x9_3) ∧ Aside0 (Kd.R (Kd.int .i64) 3 w' w.heap.size (fun _ => True) u329000 x329000_3) ∧ Aside0 (w'.heap[gb326]? = some (.cells #[(.slice none 0 0), .int .i64 x327001_3, .int .i64 x327002_3] 52 (0, 0))) ∧ Aside0 (w'.heap[gb328]? = some (.cells #[u329000, .int .i64 x329001_3, .int .i64 x329002_3] 52 (0, 0))) ∧ Aside0 (Below w.heap.size w w'))
     case atStart => exact ⟨(y329), (0), (x327001_2), (x327002_2), (([] : List Int)), (0), (0), (.slice none 0 0), zG127, H', ⟨Nat.le_refl _⟩, ⟨zH113⟩, ⟨zH87⟩, ⟨zH101⟩, ⟨zH99⟩, ⟨zH55⟩⟩
     case round =>
      clear H'
      try clear c1
      try clear c2
      try clear c6
      try clear c6b0
      try clear c6b1
      try clear c7
      try clear c7b0
      try clear c7b1
      try clear c8
      try clear c11
      try clear c12
      try clear c12b0
      try clear c12b1
      try clear c12b2
      try clear c13
      try clear c13b0
      try clear c13b1
      try clear c14
      try clear c14b0
      try clear c14b1
      try clear c21
      try clear c21b0
      try clear c22
      try clear c22b0
      try clear c24
      try clear hcz18_0
      try clear hcz18_1
      try clear hcz18_2
      try clear hcz28_0
      try clear hcz28_1
      try clear hcz28_2
      try clear hcz9_0
      try clear hcz9_1
      try clear hcz9_2
      try clear hfz18_0
      try clear hfz18_1
      try clear hfz18_2
      try clear hfz28_0
      try clear hfz28_1
      try clear hfz28_2
      try clear hfz9_0
      try clear hfz9_1
      try clear hfz9_2
      try clear hx332_0
      try clear p332
      try clear q332
      obtain ⟨x9_3, x11_3, x327001_3, x327002_3, x329000_3, x329001_3, x329002_3, u329000, rfl, HA, HK3, HO_9, HO_329000, BK326, BK328, HB⟩ := hrel
      cases gk with
      | zero => exact absurd HA.out (by simp [spec_SourceOf.l1])
      | succ k3 =>
       have H := HA.out
       clear HA
       simp only [spec_SourceOf.l1] at H
       by_cases c29 : x11_3 < (l2.length : Int)
       rotate_left
       ·rw [if_neg c29] at H
        have c29b0 := decide_eq_false c29
        clear c29
        simp only [Option.some.injEq, Prod.mk.injEq] at H
        obtain ⟨rfl, rfl, rfl, rfl⟩ := H
        have hnb67 := NB328_326.out
        have hnc67 := NB326_328.out
        obtain ⟨hcz68_0, hcz68_1, hcz68_2, hfz68_0, hfz68_1, hfz68_2⟩ := zB3 BK328.out
        obtain ⟨Ao69, co69, eo69⟩ := zan HO_329000.out
        subst eo69
        obtain ⟨hcz70_0, hcz70_1, hcz70_2, hfz70_0, hfz70_1, hfz70_2⟩ := zB3 BK326.out
        go_wp2
        refine bodyPost_ret (results_ct rfl _ _ gb326 52 #[.slice Ao69 x329000_3.length co69, .int .i64 x329001_3, .int .i64 x329002_3] (0, 0) _ rfl (by (with_reducible repeat (first | refine zc ?_ _ | refine zd ?_ | refine zb ?_ _)); refine zw (cs := #[.slice Ao69 x329000_3.length co69, .int .i64 x329001_3, .int .i64 x327002_3]) ?_ 2 _ rfl; (with_reducible repeat (first | refine zc ?_ _ | refine zd ?_ | refine zb ?_ _)); refine zw (cs := #[.slice Ao69 x329000_3.length co69, .int .i64 x327001_3, .int .i64 x327002_3]) ?_ 1 _ rfl; (with_reducible repeat (first | refine zc ?_ _ | refine zd ?_ | refine zb ?_ _)); refine zw (cs := #[.slice none 0 0, .int .i64 x327001_3, .int .i64 x327002_3]) ?_ 0 _ rfl; (with_reducible repeat (first | refine zc ?_ _ | refine zd ?_ | refine zb ?_ _)); exact BK326.out) Try.underlying52 rfl zG128) rfl ?_
        exact ⟨_, zH111, by (with_reducible repeat (first | apply zj | apply zk | apply zl)); exact zs (zo (p := ⟨gb326, 2, none⟩) (zo (p := ⟨gb326, 1, none⟩) (zo (p := ⟨gb326, 0, none⟩) (zt HO_329000.out BK326.out zG129) (fun _ hk => hk.2) (.slice Ao69 x329000_3.length co69)) (fun _ hk => hk.2) (.int .i64 x329001_3)) (fun _ hk => hk.2) (.int .i64 x329002_3)) (fun _ hk => trivial), zH55⟩
       rw [if_pos c29] at H
       have c29b0 := decide_eq_true c29
       clear c29
       by_cases c30 : 0 ≤ x11_3
       rotate_left
       ·rw [if_neg c30] at H
        exact absurd H (by simp)
       rw [if_pos c30] at H
       have c30b0 := decide_eq_true c30
       clear c30
       by_cases c31 : 0 ≤ (rd l2 x11_3)
       rotate_left
       ·rw [if_neg c31] at H
        exact absurd H (by simp)
       rw [if_pos c31] at H
       have c31b0 := decide_eq_true c31
       clear c31
       by_cases c32 : (rd l2 x11_3) < (l0.length : Int)
       rotate_left
       ·rw [if_neg c32] at H
        exact absurd H (by simp)
       rw [if_pos c32] at H
       have c32b0 := decide_eq_true c32
       clear c32
       by_cases c33 : x11_3 < (l1.length : Int)
       rotate_left
       ·rw [if_neg c33] at H
        exact absurd H (by simp)
       rw [if_pos c33] at H
       have c33b0 := decide_eq_true c33
       clear c33
       replace H := Option.bind_eq_some_iff.mp H
       obtain ⟨t337, A340, H⟩ := H
       replace H : (if t337 = true then (if x329000_3.length < 17592186044416 then ((some (x329000_3 ++ [rd l2 x11_3] : List Int)).bind fun y339 => (if (rd l2 x11_3) < (x9_3.length : Int) then (if (rdOf false x9_3 (rd l2 x11_3) = true) then (spec_SourceOf.l1 k3 l0 l1 l2 x9_3 (wrap64 (x11_3 + 1)) y339 x329001_3 x329002_3) else (spec_SourceOf.l1 k3 l0 l1 l2 (x9_3.set ((rd l2 x11_3) : Int).toNat true) (wrap64 (x11_3 + 1)) y339 (wrap64 (x329001_3 + 1)) (wrap64 (x329002_3 + ((rd_T58 l0 (rd l2 x11_3)).f1))))) else (none))) else (none)) else (some (([] : List Int), 0, 0, 19))) = some (r1, r2, r3, r4) := H
       have A34 := za A340
       clear A340
       by_cases c35 : t337 = true
       rotate_left
       ·replace c35 := Bool.eq_false_iff.mpr c35
        subst c35
        have H1 : (some (([] : List Int), 0, 0, 19)) = some (r1, r2, r3, r4) := by rw [if_neg (show ¬ (false = true) by decide)] at H; exact H
        clear H
        have H := H1
        clear H1
        simp only [Option.some.injEq, Prod.mk.injEq] at H
        obtain ⟨rfl, rfl, rfl, rfl⟩ := H
        try go_wp2
        obtain ⟨n0_, n1_, n2_, n3_, n4_⟩ := zD5 (zl HO_9.out) (zl HO_329000.out) (zd BK326.out) (zd BK328.out) (zg HB.out)
        clear HO_9 HO_329000 BK326 BK328 HB
        have HO_9 := n0_
        have HO_329000 := n1_
        have BK326 := n2_
        have BK328 := n3_
        have HB := n4_
        clear n0_ n1_ n2_ n3_ n4_
        have p334 : 0 ≤ (x11_3 : Int) := zO
        have q334 : x11_3 < (l2.length : Int) := zO
        obtain ⟨ad334, e334, hx334_0⟩ := zbc HR2.out x11_3 p334 q334
        have hw334_0 := hx334_0
        cases e334
        replace hx334_0 := (HB.out.cell (zn w _ hx334_0)).trans hx334_0
        replace p334 := eq_true p334
        replace q334 := eq_true q334
        have p335 : 0 ≤ ((rd l2 x11_3) : Int) := zO
        have q335 : (rd l2 x11_3) < (l0.length : Int) := zO
        obtain ⟨ad335, A335_2, c335_2, e335, hx335_0, hx335_1, hx335_2, hl335_2, hi335_2⟩ := at_T58 HR0.out (rd l2 x11_3) p335 q335
        have hw335_2 := hx335_2
        have hw335_1 := hx335_1
        have hw335_0 := hx335_0
        cases e335
        replace hx335_0 := (HB.out.cell (zn w _ hx335_0)).trans hx335_0
        replace hx335_1 := (HB.out.cell (zn w _ hx335_1)).trans hx335_1
        replace hx335_2 := (HB.out.cell (zn w _ hx335_2)).trans hx335_2
        obtain ⟨HR335_2, HC335_2⟩ := zD2 hi335_2 hl335_2
        clear hi335_2 hl335_2
        replace p335 := eq_true p335
        replace q335 := eq_true q335
        have p336 : 0 ≤ (x11_3 : Int) := zO
        have q336 : x11_3 < (l1.length : Int) := zO
        obtain ⟨ad336, e336, hx336_0, hx336_1⟩ := at_T124 HR1.out x11_3 p336 q336
        have hw336_1 := hx336_1
        have hw336_0 := hx336_0
        cases e336
        replace hx336_0 := (HB.out.cell (zn w _ hx336_0)).trans hx336_0
        replace hx336_1 := (HB.out.cell (zn w _ hx336_1)).trans hx336_1
        replace p336 := eq_true p336
        replace q336 := eq_true q336
        refine start_ (n := 13) (S := fun w' => w'.cell? (ad334.add (x11_3).toNat) = some (.int .i64 (rd l2 x11_3)) ∧ w'.cell? (ad335.add (((rd l2 x11_3)).toNat * 3)) = some (.string ((rd_T58 l0 (rd l2 x11_3)).f0)) ∧ w'.cell? ⟨(ad335.add (((rd l2 x11_3)).toNat * 3)).block, (ad335.add (((rd l2 x11_3)).toNat * 3)).off + 1, none⟩ = some (.int .i64 ((rd_T58 l0 (rd l2 x11_3)).f1)) ∧ w'.cell? ⟨(ad335.add (((rd l2 x11_3)).toNat * 3)).block, (ad335.add (((rd l2 x11_3)).toNat * 3)).off + 2, none⟩ = some (.slice A335_2 ((rd_T58 l0 (rd l2 x11_3)).f2).length c335_2) ∧ w'.cell? (ad336.add ((x11_3).toNat * 2)) = some (.string ((rd_T124 l1 x11_3).f0)) ∧ w'.cell? ⟨(ad336.add ((x11_3).toNat * 2)).block, (ad336.add ((x11_3).toNat * 2)).off + 1, none⟩ = some (.int .i64 ((rd_T124 l1 x11_3).f1))) (ds := []) b12A0 zG128 rfl rfl ⟨((HB.out.cell (zn w _ hw334_0)).trans hw334_0), ((HB.out.cell (zn w _ hw335_0)).trans hw335_0), ((HB.out.cell (zn w _ hw335_1)).trans hw335_1), ((HB.out.cell (zn w _ hw335_2)).trans hw335_2), ((HB.out.cell (zn w _ hw336_0)).trans hw336_0), ((HB.out.cell (zn w _ hw336_1)).trans hw336_1)⟩ (fun hHeld => ?_); refine with_tabW spec_SourceOf.tab17 spec_SourceOf.bits17 (fun HT_ HW_ => ?_)
        generalize wr.drew = w63 at HO_9 HO_329000 BK326 BK328 HB HR335_2 hx334_0 hx335_0 hx335_1 hx335_2 hx336_0 hx336_1 hHeld ⊢
        refine zP 0 63 b12A1 HT_ ?_
        refine zP 1 64 b12A6 HT_ ?_
        refine zP 2 65 b12A7 HT_ ?_
        refine zP 3 66 b12A8 HT_ ?_
        refine zP 7 70 b12A9 HT_ ?_
        refine zP 8 71 b12A10 HT_ ?_
        refine zP 9 72 b12A11 HT_ ?_
        refine zQ 4 67 b12A12 HT_ HW_ hHeld ?_
        refine zP 5 68 b12A13 HT_ ?_
        refine zQ 6 69 b12A2 HT_ HW_ hHeld ?_
        refine zQ 10 73 b12A3 HT_ HW_ hHeld ?_
        refine one_ (i := 11) (N := some 74) b12A4 rfl rfl (one_of HT_.out zG128) zG129 (fun K hK => ?_)
        refine goes_ Try.func136 zG128 rfl #[.agg #[.string ((rd_T58 l0 (rd l2 x11_3)).f0), .int .i64 ((rd_T58 l0 (rd l2 x11_3)).f1), .slice A335_2 ((rd_T58 l0 (rd l2 x11_3)).f2).length c335_2], .agg #[.string ((rd_T124 l1 x11_3).f0), .int .i64 ((rd_T124 l1 x11_3).f1)]] (by rfl) rfl rfl zG97 ?_
        with_reducible refine (spec_l23Has.calls k3 ((rd_T58 l0 (rd l2 x11_3)).f0) ((rd_T58 l0 (rd l2 x11_3)).f1) _ _ ((rd_T58 l0 (rd l2 x11_3)).f2) ((rd_T124 l1 x11_3).f0) ((rd_T124 l1 x11_3).f1) false _ ?side1 ?side2 A34.out).mono ?_
        (case side1 => exact zH62)
        (case side2 => exact HC335_2.out)
        rintro e w64 ⟨rfl, hb⟩
        refine ⟨_, rfl, ?_⟩
        obtain ⟨n0_, n1_, n2_, n3_, n4_⟩ := zD5 (zv zK254 hb) (zv zK238 hb) (zp (g := gb326) (o := .cells #[.slice none 0 0, .int .i64 x327001_3, .int .i64 x327002_3] 52 (0, 0)) zG107 hb) (zp (g := gb328) (o := .cells #[u329000, .int .i64 x329001_3, .int .i64 x329002_3] 52 (0, 0)) zK234 hb) (zu zG94 hb)
        clear HO_9 HO_329000 BK326 BK328 HB
        have HO_9 := n0_
        have HO_329000 := n1_
        have BK326 := n2_
        have BK328 := n3_
        have HB := n4_
        clear n0_ n1_ n2_ n3_ n4_
        (try clear hb)
        (try clear hb2)
        (try clear hk)
        (try clear hi)
        refine hK.out _ _ ⟨((HB.out.cell (zn w _ hw334_0)).trans hw334_0), ((HB.out.cell (zn w _ hw335_0)).trans hw335_0), ((HB.out.cell (zn w _ hw335_1)).trans hw335_1), ((HB.out.cell (zn w _ hw335_2)).trans hw335_2), ((HB.out.cell (zn w _ hw336_0)).trans hw336_0), ((HB.out.cell (zn w _ hw336_1)).trans hw336_1)⟩ (fun hHeld => ?_)
        clear hK K
        refine norm_ (a' := ?_) ?_ ?_
        rotate_left
        ·show Act.put _ (some 74) _ = _
         simp only [Act.put, List.setIfInBounds_toArray, List.set_cons_zero, List.set_cons_succ, i64_w, i32_w]
         rfl
        refine zP 12 75 b12A5 HT_ ?_
        refine done_ (done_of HT_.out zG128) ?_
        have hnb65 := NB326_328.out
        have hnc65 := NB328_326.out
        obtain ⟨hcz66_0, hcz66_1, hcz66_2, hfz66_0, hfz66_1, hfz66_2⟩ := zB3 BK326.out
        try go_wp2
        refine bodyPost_ret (results_ct rfl _ _ gb326 52 #[.slice none 0 0, .int .i64 0, .int .i64 0] (0, 0) _ rfl (by (with_reducible repeat (first | refine zc ?_ _ | refine zd ?_ | refine zb ?_ _)); refine zw (cs := #[.slice none 0 0, .int .i64 0, .int .i64 x327002_3]) ?_ 2 _ rfl; (with_reducible repeat (first | refine zc ?_ _ | refine zd ?_ | refine zb ?_ _)); refine zw (cs := #[.slice none 0 0, .int .i64 x327001_3, .int .i64 x327002_3]) ?_ 1 _ rfl; (with_reducible repeat (first | refine zc ?_ _ | refine zd ?_ | refine zb ?_ _)); refine zw (cs := #[.slice none 0 0, .int .i64 x327001_3, .int .i64 x327002_3]) ?_ 0 _ rfl; (with_reducible repeat (first | refine zc ?_ _ | refine zd ?_ | refine zb ?_ _)); exact BK326.out) Try.underlying52 rfl zG128) rfl ?_
        exact zH8
       subst c35
       have H1 : (if x329000_3.length < 17592186044416 then ((some (x329000_3 ++ [rd l2 x11_3] : List Int)).bind fun y339 => (if (rd l2 x11_3) < (x9_3.length : Int) then (if (rdOf false x9_3 (rd l2 x11_3) = true) then (spec_SourceOf.l1 k3 l0 l1 l2 x9_3 (wrap64 (x11_3 + 1)) y339 x329001_3 x329002_3) else (spec_SourceOf.l1 k3 l0 l1 l2 (x9_3.set ((rd l2 x11_3) : Int).toNat true) (wrap64 (x11_3 + 1)) y339 (wrap64 (x329001_3 + 1)) (wrap64 (x329002_3 + ((rd_T58 l0 (rd l2 x11_3)).f1))))) else (none))) else (none)) = some (r1, r2, r3, r4) := by rw [if_pos rfl] at H; exact H
       clear H
       have H := H1
       clear H1
       by_cases c36 : x329000_3.length < 17592186044416
       rotate_left
       ·rw [if_neg c36] at H
        exact absurd H (by simp)
       rw [if_pos c36] at H
       have LMc36 := za c36
       clear c36
       obtain ⟨y339, hy339⟩ : ∃ y_ : List Int, y_ = (x329000_3 ++ [rd l2 x11_3]) := ⟨_, rfl⟩
       replace H : (if (rd l2 x11_3) < (x9_3.length : Int) then (if (rdOf false x9_3 (rd l2 x11_3) = true) then (spec_SourceOf.l1 k3 l0 l1 l2 x9_3 (wrap64 (x11_3 + 1)) y339 x329001_3 x329002_3) else (spec_SourceOf.l1 k3 l0 l1 l2 (x9_3.set ((rd l2 x11_3) : Int).toNat true) (wrap64 (x11_3 + 1)) y339 (wrap64 (x329001_3 + 1)) (wrap64 (x329002_3 + ((rd_T58 l0 (rd l2 x11_3)).f1))))) else (none)) = some (r1, r2, r3, r4) := by first | (rw [hy339]; with_reducible exact H) | (have H2_ := (Option.bind_some _ _).symm.trans H; rw [hy339]; with_reducible exact H2_) | (have H2_ := (Option.bind_some _ _).symm.trans H; with_reducible exact H2_) | with_reducible exact H | (rw [hy339]; exact H) | exact H
       have Ny339 := za hy339
       clear hy339
       by_cases c37 : (rd l2 x11_3) < (x9_3.length : Int)
       rotate_left
       ·rw [if_neg c37] at H
        exact absurd H (by simp)
       rw [if_pos c37] at H
       have c37b0 := decide_eq_true c37
       clear c37
       obtain ⟨bq38, hbq38⟩ : ∃ b_ : Bool, b_ = (rdOf false x9_3 (rd l2 x11_3)) := ⟨_, rfl⟩
       replace H : (if (bq38 = true) then (spec_SourceOf.l1 k3 l0 l1 l2 x9_3 (wrap64 (x11_3 + 1)) y339 x329001_3 x329002_3) else (spec_SourceOf.l1 k3 l0 l1 l2 (x9_3.set ((rd l2 x11_3) : Int).toNat true) (wrap64 (x11_3 + 1)) y339 (wrap64 (x329001_3 + 1)) (wrap64 (x329002_3 + ((rd_T58 l0 (rd l2 x11_3)).f1))))) = some (r1, r2, r3, r4) := by rw [← hbq38] at H; exact H
       have Nbq38 := za hbq38
       clear hbq38
       by_cases c39 : (bq38 = true)
       ·subst c39
        have H1 : (spec_SourceOf.l1 k3 l0 l1 l2 x9_3 (wrap64 (x11_3 + 1)) y339 x329001_3 x329002_3) = some (r1, r2, r3, r4) := by rw [if_pos rfl] at H; exact H
        clear H
        have H := H1
        clear H1
        have H' := za H
        clear H
        try go_wp2
        obtain ⟨n0_, n1_, n2_, n3_, n4_⟩ := zD5 (zl HO_9.out) (zl HO_329000.out) (zd BK326.out) (zd BK328.out) (zg HB.out)
        clear HO_9 HO_329000 BK326 BK328 HB
        have HO_9 := n0_
        have HO_329000 := n1_
        have BK326 := n2_
        have BK328 := n3_
        have HB := n4_
        clear n0_ n1_ n2_ n3_ n4_
        have p334 : 0 ≤ (x11_3 : Int) := zO
        have q334 : x11_3 < (l2.length : Int) := zO
        obtain ⟨ad334, e334, hx334_0⟩ := zbc HR2.out x11_3 p334 q334
        have hw334_0 := hx334_0
        cases e334
        replace hx334_0 := (HB.out.cell (zn w _ hx334_0)).trans hx334_0
        replace p334 := eq_true p334
        replace q334 := eq_true q334
        have p335 : 0 ≤ ((rd l2 x11_3) : Int) := zO
        have q335 : (rd l2 x11_3) < (l0.length : Int) := zO
        obtain ⟨ad335, A335_2, c335_2, e335, hx335_0, hx335_1, hx335_2, hl335_2, hi335_2⟩ := at_T58 HR0.out (rd l2 x11_3) p335 q335
        have hw335_2 := hx335_2
        have hw335_1 := hx335_1
        have hw335_0 := hx335_0
        cases e335
        replace hx335_0 := (HB.out.cell (zn w _ hx335_0)).trans hx335_0
        replace hx335_1 := (HB.out.cell (zn w _ hx335_1)).trans hx335_1
        replace hx335_2 := (HB.out.cell (zn w _ hx335_2)).trans hx335_2
        obtain ⟨HR335_2, HC335_2⟩ := zD2 hi335_2 hl335_2
        clear hi335_2 hl335_2
        replace p335 := eq_true p335
        replace q335 := eq_true q335
        have p336 : 0 ≤ (x11_3 : Int) := zO
        have q336 : x11_3 < (l1.length : Int) := zO
        obtain ⟨ad336, e336, hx336_0, hx336_1⟩ := at_T124 HR1.out x11_3 p336 q336
        have hw336_1 := hx336_1
        have hw336_0 := hx336_0
        cases e336
        replace hx336_0 := (HB.out.cell (zn w _ hx336_0)).trans hx336_0
        replace hx336_1 := (HB.out.cell (zn w _ hx336_1)).trans hx336_1
        replace p336 := eq_true p336
        replace q336 := eq_true q336
        refine start_ (n := 13) (S := fun w' => w'.cell? (ad334.add (x11_3).toNat) = some (.int .i64 (rd l2 x11_3)) ∧ w'.cell? (ad335.add (((rd l2 x11_3)).toNat * 3)) = some (.string ((rd_T58 l0 (rd l2 x11_3)).f0)) ∧ w'.cell? ⟨(ad335.add (((rd l2 x11_3)).toNat * 3)).block, (ad335.add (((rd l2 x11_3)).toNat * 3)).off + 1, none⟩ = some (.int .i64 ((rd_T58 l0 (rd l2 x11_3)).f1)) ∧ w'.cell? ⟨(ad335.add (((rd l2 x11_3)).toNat * 3)).block, (ad335.add (((rd l2 x11_3)).toNat * 3)).off + 2, none⟩ = some (.slice A335_2 ((rd_T58 l0 (rd l2 x11_3)).f2).length c335_2) ∧ w'.cell? (ad336.add ((x11_3).toNat * 2)) = some (.string ((rd_T124 l1 x11_3).f0)) ∧ w'.cell? ⟨(ad336.add ((x11_3).toNat * 2)).block, (ad336.add ((x11_3).toNat * 2)).off + 1, none⟩ = some (.int .i64 ((rd_T124 l1 x11_3).f1))) (ds := []) b12A0 zG128 rfl rfl ⟨((HB.out.cell (zn w _ hw334_0)).trans hw334_0), ((HB.out.cell (zn w _ hw335_0)).trans hw335_0), ((HB.out.cell (zn w _ hw335_1)).trans hw335_1), ((HB.out.cell (zn w _ hw335_2)).trans hw335_2), ((HB.out.cell (zn w _ hw336_0)).trans hw336_0), ((HB.out.cell (zn w _ hw336_1)).trans hw336_1)⟩ (fun hHeld => ?_); refine with_tabW spec_SourceOf.tab17 spec_SourceOf.bits17 (fun HT_ HW_ => ?_)
        generalize wr.drew = w40 at HO_9 HO_329000 BK326 BK328 HB HR335_2 hx334_0 hx335_0 hx335_1 hx335_2 hx336_0 hx336_1 hHeld ⊢
        refine zP 0 63 b12A1 HT_ ?_
        refine zP 1 64 b12A6 HT_ ?_
        refine zP 2 65 b12A7 HT_ ?_
        refine zP 3 66 b12A8 HT_ ?_
        refine zP 7 70 b12A9 HT_ ?_
        refine zP 8 71 b12A10 HT_ ?_
        refine zP 9 72 b12A11 HT_ ?_
        refine zQ 4 67 b12A12 HT_ HW_ hHeld ?_
        refine zP 5 68 b12A13 HT_ ?_
        refine zQ 6 69 b12A2 HT_ HW_ hHeld ?_
        refine zQ 10 73 b12A3 HT_ HW_ hHeld ?_
        refine one_ (i := 11) (N := some 74) b12A4 rfl rfl (one_of HT_.out zG128) zG129 (fun K hK => ?_)
        refine goes_ Try.func136 zG128 rfl #[.agg #[.string ((rd_T58 l0 (rd l2 x11_3)).f0), .int .i64 ((rd_T58 l0 (rd l2 x11_3)).f1), .slice A335_2 ((rd_T58 l0 (rd l2 x11_3)).f2).length c335_2], .agg #[.string ((rd_T124 l1 x11_3).f0), .int .i64 ((rd_T124 l1 x11_3).f1)]] (by rfl) rfl rfl zG97 ?_
        with_reducible refine (spec_l23Has.calls k3 ((rd_T58 l0 (rd l2 x11_3)).f0) ((rd_T58 l0 (rd l2 x11_3)).f1) _ _ ((rd_T58 l0 (rd l2 x11_3)).f2) ((rd_T124 l1 x11_3).f0) ((rd_T124 l1 x11_3).f1) true _ ?side1 ?side2 A34.out).mono ?_
        (case side1 => exact zH62)
        (case side2 => exact HC335_2.out)
        rintro e w41 ⟨rfl, hb⟩
        refine ⟨_, rfl, ?_⟩
        obtain ⟨n0_, n1_, n2_, n3_, n4_⟩ := zD5 (zv zK254 hb) (zv zK238 hb) (zp (g := gb326) (o := .cells #[.slice none 0 0, .int .i64 x327001_3, .int .i64 x327002_3] 52 (0, 0)) zG107 hb) (zp (g := gb328) (o := .cells #[u329000, .int .i64 x329001_3, .int .i64 x329002_3] 52 (0, 0)) zK234 hb) (zu zG94 hb)
        clear HO_9 HO_329000 BK326 BK328 HB
        have HO_9 := n0_
        have HO_329000 := n1_
        have BK326 := n2_
        have BK328 := n3_
        have HB := n4_
        clear n0_ n1_ n2_ n3_ n4_
        (try clear hb)
        (try clear hb2)
        (try clear hk)
        (try clear hi)
        refine hK.out _ _ ⟨((HB.out.cell (zn w _ hw334_0)).trans hw334_0), ((HB.out.cell (zn w _ hw335_0)).trans hw335_0), ((HB.out.cell (zn w _ hw335_1)).trans hw335_1), ((HB.out.cell (zn w _ hw335_2)).trans hw335_2), ((HB.out.cell (zn w _ hw336_0)).trans hw336_0), ((HB.out.cell (zn w _ hw336_1)).trans hw336_1)⟩ (fun hHeld => ?_)
        clear hK K
        refine norm_ (a' := ?_) ?_ ?_
        rotate_left
        ·show Act.put _ (some 74) _ = _
         simp only [Act.put, List.setIfInBounds_toArray, List.set_cons_zero, List.set_cons_succ, i64_w, i32_w]
         rfl
        refine zP 12 75 b12A5 HT_ ?_
        refine done_ (done_of HT_.out zG128) ?_
        try go_wp2
        obtain ⟨n0_, n1_, n2_, n3_, n4_⟩ := zD5 (zl HO_9.out) (zl HO_329000.out) (zd BK326.out) (zd BK328.out) (zg HB.out)
        clear HO_9 HO_329000 BK326 BK328 HB
        have HO_9 := n0_
        have HO_329000 := n1_
        have BK326 := n2_
        have BK328 := n3_
        have HB := n4_
        clear n0_ n1_ n2_ n3_ n4_
        have p338 : 0 ≤ (x11_3 : Int) := zO
        have q338 : x11_3 < (l2.length : Int) := zO
        obtain ⟨ad338, e338, hx338_0⟩ := zbc HR2.out x11_3 p338 q338
        have hw338_0 := hx338_0
        obtain rfl : ad334 = ad338 := (by injection e338)
        replace hx338_0 := (HB.out.cell (zn w _ hx338_0)).trans hx338_0
        replace p338 := eq_true p338
        replace q338 := eq_true q338
        refine start_ (n := 10) (S := fun w' => w'.cell? ⟨gb328, 0, none⟩ = some (u329000) ∧ w'.cell? ⟨gb328, 1, none⟩ = some (.int .i64 x329001_3) ∧ w'.cell? ⟨gb328, 2, none⟩ = some (.int .i64 x329002_3) ∧ w'.cell? (ad334.add (x11_3).toNat) = some (.int .i64 (rd l2 x11_3))) (ds := [9]) b12A14 zG128 rfl rfl ⟨(zi BK328.out 0).trans rfl, (zi BK328.out 1).trans rfl, (zi BK328.out 2).trans rfl, ((HB.out.cell (zn w _ hw338_0)).trans hw338_0)⟩ (fun hHeld => ?_); refine with_tabW spec_SourceOf.tab19 spec_SourceOf.bits19 (fun HT_ HW_ => ?_)
        generalize w41.drew = w42 at HO_9 HO_329000 BK326 BK328 HB hx338_0 hHeld ⊢
        refine zP 0 77 b12A15 HT_ ?_
        refine zP 2 79 b12A16 HT_ ?_
        refine zP 3 80 b12A17 HT_ ?_
        refine zP 4 81 b12A18 HT_ ?_
        refine zQ 1 78 b12A19 HT_ HW_ hHeld ?_
        refine zQ 5 82 b12A20 HT_ HW_ hHeld ?_
        refine one_ (i := 6) (N := some 83) b12A21 rfl rfl (one_of HT_.out zG128) zG129 (fun K hK => ?_)
        refine value_ (w1 := ?_) (v := ?_) (by rfl) rfl ?_ ?_
        rotate_left 2
        ·go_simp
         constructor
         ·rfl
         ·rfl
        refine hK.out _ _ ⟨(zi (zb BK328.out _) 0).trans rfl, (zi (zb BK328.out _) 1).trans rfl, (zi (zb BK328.out _) 2).trans rfl, (World.cell?_alloc_lt _ _ _ (zn _ _ (((HB.out.cell (zn w _ hw338_0)).trans hw338_0)))).trans (((HB.out.cell (zn w _ hw338_0)).trans hw338_0))⟩ (fun hHeld => ?_)
        clear hK K
        refine norm_ (a' := ?_) ?_ ?_
        rotate_left
        ·show Act.put _ (some 83) _ = _
         simp only [Act.put, List.setIfInBounds_toArray, List.set_cons_zero, List.set_cons_succ, i64_w, i32_w]
         rfl
        refine one_ (i := 7) (N := some 84) b12A22 rfl rfl (one_of HT_.out zG128) zG129 (fun K hK => ?_)
        refine Kd.R_append_step (Kd.int .i64) (w0 := w) w.heap.size (by rfl) (.tmp 78) (.tmp 83) 24 3 (.int .i64 0) 8 rfl Try.underlying24 info3 rfl zG129 (by omega) u329000 x329000_3 (rd l2 x11_3) [.int .i64 (rd l2 x11_3)] (fun _ => True) (fun _ => False) rfl rfl ?aP (fun _ hk => hk.elim) ?aF ?aO ?aB ?aS ?aL ?_
        (case aP => exact rfl)
        (case aB => exact zG94)
        (case aF => exact zH121)
        (case aO => exact zK238)
        (case aS => exact (zq zG94))
        (case aL => have := LMc36.out; omega)
        intro v340 w43 ho hb hg hat
        rw [← Ny339.out] at ho
        obtain ⟨n0_, n1_, n2_, n3_, n4_⟩ := zD5 (zat zK254 (zau zK238) zG129 hg) (zas (g := gb326) (o := .cells #[.slice none 0 0, .int .i64 x327001_3, .int .i64 x327002_3] 52 (0, 0)) zG107 hg (zbg HO_329000.out BK326.out zG129)) (zas (g := gb328) (o := .cells #[u329000, .int .i64 x329001_3, .int .i64 x329002_3] 52 (0, 0)) zK234 hg (zbg HO_329000.out BK328.out zG129)) (hb) (ho)
        clear HO_9 BK326 BK328 HB HO_329000
        have HO_9 := n0_
        have BK326 := n1_
        have BK328 := n2_
        have HB := n3_
        have HO341 := n4_
        clear n0_ n1_ n2_ n3_ n4_
        clear ho hb hg hat
        obtain ⟨Ao44, co44, eo44⟩ := zan HO341.out
        (first | subst eo44 | (injection eo44 with f1_ f2_ f3_; have f4_ := f1_.symm; have f5_ := f3_.symm; clear f1_ f2_ f3_; subst f4_; subst f5_))
        refine hK.out _ _ ⟨(zi BK328.out 0).trans rfl, (zi BK328.out 1).trans rfl, (zi BK328.out 2).trans rfl, ((HB.out.cell (zn w _ hw338_0)).trans hw338_0)⟩ (fun hHeld => ?_)
        clear hK K
        refine norm_ (a' := ?_) ?_ ?_
        rotate_left
        ·show Act.put _ (some 84) _ = _
         simp only [Act.put, List.setIfInBounds_toArray, List.set_cons_zero, List.set_cons_succ, i64_w, i32_w]
         rfl
        refine zP 8 85 b12A23 HT_ ?_
        refine last_ (i := 9) (N := none) b12A24 rfl rfl (one_of HT_.out zG128) zG129 (fun K hK => ?_)
        have hs45 : w43.cell? ⟨gb328, 0, none⟩ = some (u329000) := (zi BK328.out 0).trans rfl
        have hfs45 := zm BK328.out 0
        have hns45_0 := NB326_328.out
        have hms45_0 := NB328_326.out
        refine skip_ (w1 := ?_) (by rfl) rfl ?_ ?_
        rotate_left
        ·go_simp
         rfl
        refine hK.out _ _ ?_
        clear hK K
        refine done_ (done_of HT_.out zG128) ?_
        have p342 : 0 ≤ (x11_3 : Int) := zO
        have q342 : x11_3 < (l2.length : Int) := zO
        obtain ⟨ad342, e342, hx342_0⟩ := zbc HR2.out x11_3 p342 q342
        obtain rfl : ad334 = ad342 := (by injection e342)
        have hn342_0 : ad334.block ≠ gb328 := Nat.ne_of_lt (Nat.lt_of_lt_of_le (by have := zn _ _ hx342_0; first | rwa [add_block] at this | exact this) GW328.out)
        replace hx342_0 := (HB.out.cell (zn w _ hx342_0)).trans hx342_0
        replace hx342_0 := (cell_far (p := ⟨gb328, 0, none⟩) (by first | (rw [add_block]; exact hn342_0) | (show (Addr.add _ _).block ≠ _; rw [add_block]; exact hn342_0) | exact hn342_0) (.slice Ao44 y339.length co44)).trans hx342_0
        clear hn342_0
        replace p342 := eq_true p342
        replace q342 := eq_true q342
        obtain ⟨Ao46, co46, eo46⟩ := zan HO_9.out
        subst eo46
        have p343 : 0 ≤ ((rd l2 x11_3) : Int) := zO
        have q343 : (rd l2 x11_3) < (x9_3.length : Int) := zO
        obtain ⟨ad343, e343, hx343_0⟩ := Kd.at_bool (zae HO_9.out).2.2 (rd l2 x11_3) p343 q343
        (try rw [← Nbq38.out] at hx343_0)
        cases e343
        have hn343_0 : ad343.block ≠ gb328 := Kd.own_blk (zbg HO_9.out BK328.out zG129)
        replace hx343_0 := (cell_far (p := ⟨gb328, 0, none⟩) (by first | (rw [add_block]; exact hn343_0) | (show (Addr.add _ _).block ≠ _; rw [add_block]; exact hn343_0) | exact hn343_0) (.slice Ao44 y339.length co44)).trans hx343_0
        clear hn343_0
        replace p343 := eq_true p343
        replace q343 := eq_true q343
        try go_wp2
        go_roundg k3
        case measure => have := HJ3.out; have := HK2.out; have := HK3.out; omega
        case rel => exact ⟨(x9_3), (wrap64 (x11_3 + 1)), (x327001_3), (x327002_3), (y339), (x329001_3), (x329002_3), (.slice Ao44 y339.length co44), zG127, H', ⟨by have := HJ3.out; have := HK2.out; have := HK3.out; omega⟩, ⟨by (with_reducible repeat (first | apply zj | apply zk | apply zl)); exact zs (zo (p := ⟨gb328, 0, none⟩) (zt HO_9.out BK328.out zG129) (fun _ hk => hk.2) (.slice Ao44 y339.length co44)) (fun _ hk => trivial)⟩, ⟨by (with_reducible repeat (first | apply zj | apply zk | apply zl)); exact zs (zo (p := ⟨gb328, 0, none⟩) (zt HO341.out BK328.out zG129) (fun _ hk => hk.2) (.slice Ao44 y339.length co44)) (fun _ hk => trivial)⟩, ⟨zH36⟩, ⟨zH19⟩, ⟨zH55⟩⟩
       replace c39 := Bool.eq_false_iff.mpr c39
       subst c39
       have H1 : (spec_SourceOf.l1 k3 l0 l1 l2 (x9_3.set ((rd l2 x11_3) : Int).toNat true) (wrap64 (x11_3 + 1)) y339 (wrap64 (x329001_3 + 1)) (wrap64 (x329002_3 + ((rd_T58 l0 (rd l2 x11_3)).f1)))) = some (r1, r2, r3, r4) := by rw [if_neg (show ¬ (false = true) by decide)] at H; exact H
       clear H
       have H := H1
       clear H1
       obtain ⟨y345, hy345⟩ : ∃ y_ : List Bool, y_ = (x9_3.set ((rd l2 x11_3) : Int).toNat true) := ⟨_, rfl⟩
       replace H : (spec_SourceOf.l1 k3 l0 l1 l2 y345 (wrap64 (x11_3 + 1)) y339 (wrap64 (x329001_3 + 1)) (wrap64 (x329002_3 + ((rd_T58 l0 (rd l2 x11_3)).f1)))) = some (r1, r2, r3, r4) := by first | (rw [hy345]; with_reducible exact H) | (have H2_ := (Option.bind_some _ _).symm.trans H; rw [hy345]; with_reducible exact H2_) | (have H2_ := (Option.bind_some _ _).symm.trans H; with_reducible exact H2_) | with_reducible exact H | (rw [hy345]; exact H) | exact H
       have Ny345 := za hy345
       clear hy345
       have H' := za H
       clear H
       try go_wp2
       obtain ⟨n0_, n1_, n2_, n3_, n4_⟩ := zD5 (zl HO_9.out) (zl HO_329000.out) (zd BK326.out) (zd BK328.out) (zg HB.out)
       clear HO_9 HO_329000 BK326 BK328 HB
       have HO_9 := n0_
       have HO_329000 := n1_
       have BK326 := n2_
       have BK328 := n3_
       have HB := n4_
       clear n0_ n1_ n2_ n3_ n4_
       have p334 : 0 ≤ (x11_3 : Int) := zO
       have q334 : x11_3 < (l2.length : Int) := zO
       obtain ⟨ad334, e334, hx334_0⟩ := zbc HR2.out x11_3 p334 q334
       have hw334_0 := hx334_0
       cases e334
       replace hx334_0 := (HB.out.cell (zn w _ hx334_0)).trans hx334_0
       replace p334 := eq_true p334
       replace q334 := eq_true q334
       have p335 : 0 ≤ ((rd l2 x11_3) : Int) := zO
       have q335 : (rd l2 x11_3) < (l0.length : Int) := zO
       obtain ⟨ad335, A335_2, c335_2, e335, hx335_0, hx335_1, hx335_2, hl335_2, hi335_2⟩ := at_T58 HR0.out (rd l2 x11_3) p335 q335
       have hw335_2 := hx335_2
       have hw335_1 := hx335_1
       have hw335_0 := hx335_0
       cases e335
       replace hx335_0 := (HB.out.cell (zn w _ hx335_0)).trans hx335_0
       replace hx335_1 := (HB.out.cell (zn w _ hx335_1)).trans hx335_1
       replace hx335_2 := (HB.out.cell (zn w _ hx335_2)).trans hx335_2
       obtain ⟨HR335_2, HC335_2⟩ := zD2 hi335_2 hl335_2
       clear hi335_2 hl335_2
       replace p335 := eq_true p335
       replace q335 := eq_true q335
       have p336 : 0 ≤ (x11_3 : Int) := zO
       have q336 : x11_3 < (l1.length : Int) := zO
       obtain ⟨ad336, e336, hx336_0, hx336_1⟩ := at_T124 HR1.out x11_3 p336 q336
       have hw336_1 := hx336_1
       have hw336_0 := hx336_0
       cases e336
       replace hx336_0 := (HB.out.cell (zn w _ hx336_0)).trans hx336_0
       replace hx336_1 := (HB.out.cell (zn w _ hx336_1)).trans hx336_1
       replace p336 := eq_true p336
       replace q336 := eq_true q336
       refine start_ (n := 13) (S := fun w' => w'.cell? (ad334.add (x11_3).toNat) = some (.int .i64 (rd l2 x11_3)) ∧ w'.cell? (ad335.add (((rd l2 x11_3)).toNat * 3)) = some (.string ((rd_T58 l0 (rd l2 x11_3)).f0)) ∧ w'.cell? ⟨(ad335.add (((rd l2 x11_3)).toNat * 3)).block, (ad335.add (((rd l2 x11_3)).toNat * 3)).off + 1, none⟩ = some (.int .i64 ((rd_T58 l0 (rd l2 x11_3)).f1)) ∧ w'.cell? ⟨(ad335.add (((rd l2 x11_3)).toNat * 3)).block, (ad335.add (((rd l2 x11_3)).toNat * 3)).off + 2, none⟩ = some (.slice A335_2 ((rd_T58 l0 (rd l2 x11_3)).f2).length c335_2) ∧ w'.cell? (ad336.add ((x11_3).toNat * 2)) = some (.string ((rd_T124 l1 x11_3).f0)) ∧ w'.cell? ⟨(ad336.add ((x11_3).toNat * 2)).block, (ad336.add ((x11_3).toNat * 2)).off + 1, none⟩ = some (.int .i64 ((rd_T124 l1 x11_3).f1))) (ds := []) b12A0 zG128 rfl rfl ⟨((HB.out.cell (zn w _ hw334_0)).trans hw334_0), ((HB.out.cell (zn w _ hw335_0)).trans hw335_0), ((HB.out.cell (zn w _ hw335_1)).trans hw335_1), ((HB.out.cell (zn w _ hw335_2)).trans hw335_2), ((HB.out.cell (zn w _ hw336_0)).trans hw336_0), ((HB.out.cell (zn w _ hw336_1)).trans hw336_1)⟩ (fun hHeld => ?_); refine with_tabW spec_SourceOf.tab17 spec_SourceOf.bits17 (fun HT_ HW_ => ?_)
       generalize wr.drew = w48 at HO_9 HO_329000 BK326 BK328 HB HR335_2 hx334_0 hx335_0 hx335_1 hx335_2 hx336_0 hx336_1 hHeld ⊢
       refine zP 0 63 b12A1 HT_ ?_
       refine zP 1 64 b12A6 HT_ ?_
       refine zP 2 65 b12A7 HT_ ?_
       refine zP 3 66 b12A8 HT_ ?_
       refine zP 7 70 b12A9 HT_ ?_
       refine zP 8 71 b12A10 HT_ ?_
       refine zP 9 72 b12A11 HT_ ?_
       refine zQ 4 67 b12A12 HT_ HW_ hHeld ?_
       refine zP 5 68 b12A13 HT_ ?_
       refine zQ 6 69 b12A2 HT_ HW_ hHeld ?_
       refine zQ 10 73 b12A3 HT_ HW_ hHeld ?_
       refine one_ (i := 11) (N := some 74) b12A4 rfl rfl (one_of HT_.out zG128) zG129 (fun K hK => ?_)
       refine goes_ Try.func136 zG128 rfl #[.agg #[.string ((rd_T58 l0 (rd l2 x11_3)).f0), .int .i64 ((rd_T58 l0 (rd l2 x11_3)).f1), .slice A335_2 ((rd_T58 l0 (rd l2 x11_3)).f2).length c335_2], .agg #[.string ((rd_T124 l1 x11_3).f0), .int .i64 ((rd_T124 l1 x11_3).f1)]] (by rfl) rfl rfl zG97 ?_
       with_reducible refine (spec_l23Has.calls k3 ((rd_T58 l0 (rd l2 x11_3)).f0) ((rd_T58 l0 (rd l2 x11_3)).f1) _ _ ((rd_T58 l0 (rd l2 x11_3)).f2) ((rd_T124 l1 x11_3).f0) ((rd_T124 l1 x11_3).f1) true _ ?side1 ?side2 A34.out).mono ?_
       (case side1 => exact zH62)
       (case side2 => exact HC335_2.out)
       rintro e w49 ⟨rfl, hb⟩
       refine ⟨_, rfl, ?_⟩
       obtain ⟨n0_, n1_, n2_, n3_, n4_⟩ := zD5 (zv zK254 hb) (zv zK238 hb) (zp (g := gb326) (o := .cells #[.slice none 0 0, .int .i64 x327001_3, .int .i64 x327002_3] 52 (0, 0)) zG107 hb) (zp (g := gb328) (o := .cells #[u329000, .int .i64 x329001_3, .int .i64 x329002_3] 52 (0, 0)) zK234 hb) (zu zG94 hb)
       clear HO_9 HO_329000 BK326 BK328 HB
       have HO_9 := n0_
       have HO_329000 := n1_
       have BK326 := n2_
       have BK328 := n3_
       have HB := n4_
       clear n0_ n1_ n2_ n3_ n4_
       (try clear hb)
       (try clear hb2)
       (try clear hk)
       (try clear hi)
       refine hK.out _ _ ⟨((HB.out.cell (zn w _ hw334_0)).trans hw334_0), ((HB.out.cell (zn w _ hw335_0)).trans hw335_0), ((HB.out.cell (zn w _ hw335_1)).trans hw335_1), ((HB.out.cell (zn w _ hw335_2)).trans hw335_2), ((HB.out.cell (zn w _ hw336_0)).trans hw336_0), ((HB.out.cell (zn w _ hw336_1)).trans hw336_1)⟩ (fun hHeld => ?_)
       clear hK K
       refine norm_ (a' := ?_) ?_ ?_
       rotate_left
       ·show Act.put _ (some 74) _ = _
        simp only [Act.put, List.setIfInBounds_toArray, List.set_cons_zero, List.set_cons_succ, i64_w, i32_w]
        rfl
       refine zP 12 75 b12A5 HT_ ?_
       refine done_ (done_of HT_.out zG128) ?_
       try go_wp2
       obtain ⟨n0_, n1_, n2_, n3_, n4_⟩ := zD5 (zl HO_9.out) (zl HO_329000.out) (zd BK326.out) (zd BK328.out) (zg HB.out)
       clear HO_9 HO_329000 BK326 BK328 HB
       have HO_9 := n0_
       have HO_329000 := n1_
       have BK326 := n2_
       have BK328 := n3_
       have HB := n4_
       clear n0_ n1_ n2_ n3_ n4_
       have p338 : 0 ≤ (x11_3 : Int) := zO
       have q338 : x11_3 < (l2.length : Int) := zO
       obtain ⟨ad338, e338, hx338_0⟩ := zbc HR2.out x11_3 p338 q338
       have hw338_0 := hx338_0
       obtain rfl : ad334 = ad338 := (by injection e338)
       replace hx338_0 := (HB.out.cell (zn w _ hx338_0)).trans hx338_0
       replace p338 := eq_true p338
       replace q338 := eq_true q338
       refine start_ (n := 10) (S := fun w' => w'.cell? ⟨gb328, 0, none⟩ = some (u329000) ∧ w'.cell? ⟨gb328, 1, none⟩ = some (.int .i64 x329001_3) ∧ w'.cell? ⟨gb328, 2, none⟩ = some (.int .i64 x329002_3) ∧ w'.cell? (ad334.add (x11_3).toNat) = some (.int .i64 (rd l2 x11_3))) (ds := [9]) b12A14 zG128 rfl rfl ⟨(zi BK328.out 0).trans rfl, (zi BK328.out 1).trans rfl, (zi BK328.out 2).trans rfl, ((HB.out.cell (zn w _ hw338_0)).trans hw338_0)⟩ (fun hHeld => ?_); refine with_tabW spec_SourceOf.tab19 spec_SourceOf.bits19 (fun HT_ HW_ => ?_)
       generalize w49.drew = w50 at HO_9 HO_329000 BK326 BK328 HB hx338_0 hHeld ⊢
       refine zP 0 77 b12A15 HT_ ?_
       refine zP 2 79 b12A16 HT_ ?_
       refine zP 3 80 b12A17 HT_ ?_
       refine zP 4 81 b12A18 HT_ ?_
       refine zQ 1 78 b12A19 HT_ HW_ hHeld ?_
       refine zQ 5 82 b12A20 HT_ HW_ hHeld ?_
       refine one_ (i := 6) (N := some 83) b12A21 rfl rfl (one_of HT_.out zG128) zG129 (fun K hK => ?_)
       refine value_ (w1 := ?_) (v := ?_) (by rfl) rfl ?_ ?_
       rotate_left 2
       ·go_simp
        constructor
        ·rfl
        ·rfl
       refine hK.out _ _ ⟨(zi (zb BK328.out _) 0).trans rfl, (zi (zb BK328.out _) 1).trans rfl, (zi (zb BK328.out _) 2).trans rfl, (World.cell?_alloc_lt _ _ _ (zn _ _ (((HB.out.cell (zn w _ hw338_0)).trans hw338_0)))).trans (((HB.out.cell (zn w _ hw338_0)).trans hw338_0))⟩ (fun hHeld => ?_)
       clear hK K
       refine norm_ (a' := ?_) ?_ ?_
       rotate_left
       ·show Act.put _ (some 83) _ = _
        simp only [Act.put, List.setIfInBounds_toArray, List.set_cons_zero, List.set_cons_succ, i64_w, i32_w]
        rfl
       refine one_ (i := 7) (N := some 84) b12A22 rfl rfl (one_of HT_.out zG128) zG129 (fun K hK => ?_)
       refine Kd.R_append_step (Kd.int .i64) (w0 := w) w.heap.size (by rfl) (.tmp 78) (.tmp 83) 24 3 (.int .i64 0) 8 rfl Try.underlying24 info3 rfl zG129 (by omega) u329000 x329000_3 (rd l2 x11_3) [.int .i64 (rd l2 x11_3)] (fun _ => True) (fun _ => False) rfl rfl ?aP (fun _ hk => hk.elim) ?aF ?aO ?aB ?aS ?aL ?_
       (case aP => exact rfl)
       (case aB => exact zG94)
       (case aF => exact zH121)
       (case aO => exact zK238)
       (case aS => exact (zq zG94))
       (case aL => have := LMc36.out; omega)
       intro v340 w51 ho hb hg hat
       rw [← Ny339.out] at ho
       obtain ⟨n0_, n1_, n2_, n3_, n4_⟩ := zD5 (zat zK254 (zau zK238) zG129 hg) (zas (g := gb326) (o := .cells #[.slice none 0 0, .int .i64 x327001_3, .int .i64 x327002_3] 52 (0, 0)) zG107 hg (zbg HO_329000.out BK326.out zG129)) (zas (g := gb328) (o := .cells #[u329000, .int .i64 x329001_3, .int .i64 x329002_3] 52 (0, 0)) zK234 hg (zbg HO_329000.out BK328.out zG129)) (hb) (ho)
       clear HO_9 BK326 BK328 HB HO_329000
       have HO_9 := n0_
       have BK326 := n1_
       have BK328 := n2_
       have HB := n3_
       have HO341 := n4_
       clear n0_ n1_ n2_ n3_ n4_
       clear ho hb hg hat
       obtain ⟨Ao52, co52, eo52⟩ := zan HO341.out
       (first | subst eo52 | (injection eo52 with f1_ f2_ f3_; have f4_ := f1_.symm; have f5_ := f3_.symm; clear f1_ f2_ f3_; subst f4_; subst f5_))
       refine hK.out _ _ ⟨(zi BK328.out 0).trans rfl, (zi BK328.out 1).trans rfl, (zi BK328.out 2).trans rfl, ((HB.out.cell (zn w _ hw338_0)).trans hw338_0)⟩ (fun hHeld => ?_)
       clear hK K
       refine norm_ (a' := ?_) ?_ ?_
       rotate_left
       ·show Act.put _ (some 84) _ = _
        simp only [Act.put, List.setIfInBounds_toArray, List.set_cons_zero, List.set_cons_succ, i64_w, i32_w]
        rfl
       refine zP 8 85 b12A23 HT_ ?_
       refine last_ (i := 9) (N := none) b12A24 rfl rfl (one_of HT_.out zG128) zG129 (fun K hK => ?_)
       have hs53 : w51.cell? ⟨gb328, 0, none⟩ = some (u329000) := (zi BK328.out 0).trans rfl
       have hfs53 := zm BK328.out 0
       have hns53_0 := NB326_328.out
       have hms53_0 := NB328_326.out
       refine skip_ (w1 := ?_) (by rfl) rfl ?_ ?_
       rotate_left
       ·go_simp
        rfl
       refine hK.out _ _ ?_
       clear hK K
       refine done_ (done_of HT_.out zG128) ?_
       have n0_ : Aside0 (Kd.R Kd.bool 4 (w51.setCell ⟨gb328, 0, none⟩ (.slice Ao52 y339.length co52)) w.heap.size (fun _ => True) v330 x9_3) := ⟨by (with_reducible repeat (first | apply zj | apply zk | apply zl)); exact zs (zo (p := ⟨gb328, 0, none⟩) (zt HO_9.out BK328.out zG129) (fun _ hk => hk.2) (.slice Ao52 y339.length co52)) (fun _ hk => trivial)⟩
       have n1_ : Aside0 (Kd.R (Kd.int .i64) 3 (w51.setCell ⟨gb328, 0, none⟩ (.slice Ao52 y339.length co52)) w.heap.size (fun _ => True) (.slice Ao52 y339.length co52) y339) := ⟨by (with_reducible repeat (first | apply zj | apply zk | apply zl)); exact zs (zo (p := ⟨gb328, 0, none⟩) (zt HO341.out BK328.out zG129) (fun _ hk => hk.2) (.slice Ao52 y339.length co52)) (fun _ hk => trivial)⟩
       have n2_ : Aside0 ((w51.setCell ⟨gb328, 0, none⟩ (.slice Ao52 y339.length co52)).heap[gb326]? = some (.cells #[.slice none 0 0, .int .i64 x327001_3, .int .i64 x327002_3] 52 (0, 0))) := ⟨zH36⟩
       have n3_ : Aside0 ((w51.setCell ⟨gb328, 0, none⟩ (.slice Ao52 y339.length co52)).heap[gb328]? = some (.cells #[.slice Ao52 y339.length co52, .int .i64 x329001_3, .int .i64 x329002_3] 52 (0, 0))) := ⟨zH19⟩
       have n4_ : Aside0 (Below w.heap.size w (w51.setCell ⟨gb328, 0, none⟩ (.slice Ao52 y339.length co52))) := ⟨zH55⟩
       (try clear HO_9)
       (try clear HO341)
       (try clear BK326)
       (try clear BK328)
       (try clear HB)
       generalize (w51.setCell ⟨gb328, 0, none⟩ (.slice Ao52 y339.length co52)) = w54 at n0_ n1_ n2_ n3_ n4_ ⊢
       have HO_9 := n0_
       have HO341 := n1_
       have BK326 := n2_
       have BK328 := n3_
       have HB := n4_
       clear n0_ n1_ n2_ n3_ n4_
       have p342 : 0 ≤ (x11_3 : Int) := zO
       have q342 : x11_3 < (l2.length : Int) := zO
       obtain ⟨ad342, e342, hx342_0⟩ := zbc HR2.out x11_3 p342 q342
       obtain rfl : ad334 = ad342 := (by injection e342)
       replace hx342_0 := (HB.out.cell (zn w _ hx342_0)).trans hx342_0
       replace p342 := eq_true p342
       replace q342 := eq_true q342
       obtain ⟨Ao55, co55, eo55⟩ := zan HO_9.out
       subst eo55
       have p343 : 0 ≤ ((rd l2 x11_3) : Int) := zO
       have q343 : (rd l2 x11_3) < (x9_3.length : Int) := zO
       obtain ⟨ad343, e343, hx343_0⟩ := Kd.at_bool (zae HO_9.out).2.2 (rd l2 x11_3) p343 q343
       (try rw [← Nbq38.out] at hx343_0)
       cases e343
       replace p343 := eq_true p343
       replace q343 := eq_true q343
       have p344 : 0 ≤ (x11_3 : Int) := zO
       have q344 : x11_3 < (l2.length : Int) := zO
       obtain ⟨ad344, e344, hx344_0⟩ := zbc HR2.out x11_3 p344 q344
       obtain rfl : ad334 = ad344 := (by injection e344)
       replace hx344_0 := (HB.out.cell (zn w _ hx344_0)).trans hx344_0
       replace p344 := eq_true p344
       replace q344 := eq_true q344
       have p47 : 0 ≤ ((rd l2 x11_3) : Int) := zO
       have q47 : ((rd l2 x11_3) : Int) < ((x9_3.length : Int) : Int) := zO
       obtain ⟨go47, co47, eo47, gb47, gl47, cl47, HG47⟩ := Kd.R_form HO_9.out (by omega)
       (first | cases eo47 | (injection eo47 with ea_ en_ ec_; (first | subst ea_ | (injection ea_ with ea_; subst ea_)); subst ec_; clear en_))
       obtain ⟨GB47, GG47⟩ := zD2 gb47 HG47
       clear gb47 gl47 HG47
       (first | simp only [add_plain] at hx343_0 | skip)
       obtain ⟨hx47_0, hf47_0⟩ := Kd.R_celln false HO_9.out ((rd l2 x11_3) : Int) p47 q47
       replace p47 := eq_true p47
       replace q47 := eq_true q47
       obtain ⟨hy56_, hz56_⟩ := Kd.R_celln false HO_9.out ((rd l2 x11_3) : Int) zO zO
       have HP56 := Kd.R_putg HO_9.out ((rd l2 x11_3) : Int) true
       try go_wp2_with (first | ((with_reducible refine gate_store (t := 4) (p := 99) rfl ?_); refine store_event (t := 4) (p := 99) (v := ?vo_w57) (w1 := (w54.setCell ⟨go47, ((rd l2 x11_3) : Int).toNat, none⟩ (.bool true))) ?hg ?ho ?hn ?hr ?_; (case ho => rfl); (case hg => rfl); (case hn => rfl); (case hr => exact zH119); intro w57 hw; have hg : w54.grownBy w57 (some go47) := (by rw [hw]; exact HP56.2); have hp_ : Kd.R Kd.bool 4 w57 w.heap.size (fun _ => True) (.slice (some ⟨go47, 0, none⟩) x9_3.length co55) y345 := (by rw [hw, Ny345.out]; exact HP56.1); clear HP56; have n_ := zA_ (za (hp_)) (zA_ (za (zas (g := gb326) (o := .cells #[.slice none 0 0, .int .i64 x327001_3, .int .i64 x327002_3] 52 (0, 0)) zG107 hg (zbg HO_9.out BK326.out zG129))) (zA_ (za (zas (g := gb328) (o := .cells #[.slice Ao52 y339.length co52, .int .i64 x329001_3, .int .i64 x329002_3] 52 (0, 0)) zK234 hg (zbg HO_9.out BK328.out zG129))) (zA_ (za (zat (v := (.slice (some ⟨go47, 0, none⟩) x9_3.length co55)) (by (with_reducible repeat (first | apply zj | apply zk | apply zl)); exact HO341.out) (zau HO_9.out) zG129 hg)) (za ((by rw [hw]; exact ze (HB.out) GB47.out : Below w.heap.size w w57)))))); clear HO_9 BK326 BK328 HO341 HB; obtain ⟨HO_9, BK326, BK328, HO341, HB⟩ := n_; clear hg hw hp_; have hnb58 := NB328_326.out; have hnc58 := NB326_328.out; obtain ⟨hcz59_0, hcz59_1, hcz59_2, hfz59_0, hfz59_1, hfz59_2⟩ := zB3 BK328.out))
       have n0_ : Aside0 (Kd.R Kd.bool 4 (w57.setCell ⟨gb328, 1, none⟩ (.int .i64 (wrap64 (x329001_3 + 1)))) w.heap.size (fun _ => True) (.slice (some ⟨go47, 0, none⟩) x9_3.length co55) y345) := ⟨by (with_reducible repeat (first | apply zj | apply zk | apply zl)); exact zs (zo (p := ⟨gb328, 1, none⟩) (zt HO_9.out BK328.out zG129) (fun _ hk => hk.2) (.int .i64 (wrap64 (x329001_3 + 1)))) (fun _ hk => trivial)⟩
       have n1_ : Aside0 (Kd.R (Kd.int .i64) 3 (w57.setCell ⟨gb328, 1, none⟩ (.int .i64 (wrap64 (x329001_3 + 1)))) w.heap.size (fun _ => True) (.slice Ao52 y339.length co52) y339) := ⟨by (with_reducible repeat (first | apply zj | apply zk | apply zl)); exact zs (zo (p := ⟨gb328, 1, none⟩) (zt HO341.out BK328.out zG129) (fun _ hk => hk.2) (.int .i64 (wrap64 (x329001_3 + 1)))) (fun _ hk => trivial)⟩
       have n2_ : Aside0 ((w57.setCell ⟨gb328, 1, none⟩ (.int .i64 (wrap64 (x329001_3 + 1)))).heap[gb326]? = some (.cells #[.slice none 0 0, .int .i64 x327001_3, .int .i64 x327002_3] 52 (0, 0))) := ⟨zH36⟩
       have n3_ : Aside0 ((w57.setCell ⟨gb328, 1, none⟩ (.int .i64 (wrap64 (x329001_3 + 1)))).heap[gb328]? = some (.cells #[.slice Ao52 y339.length co52, .int .i64 (wrap64 (x329001_3 + 1)), .int .i64 x329002_3] 52 (0, 0))) := ⟨by (with_reducible repeat (first | refine zc ?_ _ | refine zd ?_ | refine zb ?_ _)); refine zw (cs := #[.slice Ao52 y339.length co52, .int .i64 x329001_3, .int .i64 x329002_3]) ?_ 1 _ rfl; (with_reducible repeat (first | refine zc ?_ _ | refine zd ?_ | refine zb ?_ _)); exact BK328.out⟩
       have n4_ : Aside0 (Below w.heap.size w (w57.setCell ⟨gb328, 1, none⟩ (.int .i64 (wrap64 (x329001_3 + 1))))) := ⟨zH55⟩
       (try clear HO_9)
       (try clear HO341)
       (try clear BK326)
       (try clear BK328)
       (try clear HB)
       generalize (w57.setCell ⟨gb328, 1, none⟩ (.int .i64 (wrap64 (x329001_3 + 1)))) = w60 at n0_ n1_ n2_ n3_ n4_ ⊢
       have HO_9 := n0_
       have HO341 := n1_
       have BK326 := n2_
       have BK328 := n3_
       have HB := n4_
       clear n0_ n1_ n2_ n3_ n4_
       obtain ⟨n0_, n1_, n2_, n3_, n4_⟩ := zD5 (zl HO_9.out) (zl HO341.out) (zd BK326.out) (zd BK328.out) (zg HB.out)
       clear HO_9 HO341 BK326 BK328 HB
       have HO_9 := n0_
       have HO341 := n1_
       have BK326 := n2_
       have BK328 := n3_
       have HB := n4_
       clear n0_ n1_ n2_ n3_ n4_
       have p346 : 0 ≤ (x11_3 : Int) := zO
       have q346 : x11_3 < (l2.length : Int) := zO
       obtain ⟨ad346, e346, hx346_0⟩ := zbc HR2.out x11_3 p346 q346
       have hw346_0 := hx346_0
       obtain rfl : ad334 = ad346 := (by injection e346)
       replace hx346_0 := (HB.out.cell (zn w _ hx346_0)).trans hx346_0
       replace p346 := eq_true p346
       replace q346 := eq_true q346
       have p347 : 0 ≤ ((rd l2 x11_3) : Int) := zO
       have q347 : (rd l2 x11_3) < (l0.length : Int) := zO
       obtain ⟨ad347, A347_2, c347_2, e347, hx347_0, hx347_1, hx347_2, hl347_2, hi347_2⟩ := at_T58 HR0.out (rd l2 x11_3) p347 q347
       have hw347_2 := hx347_2
       have hw347_1 := hx347_1
       have hw347_0 := hx347_0
       obtain rfl : ad335 = ad347 := (by injection e347)
       replace hx347_0 := (HB.out.cell (zn w _ hx347_0)).trans hx347_0
       replace hx347_1 := (HB.out.cell (zn w _ hx347_1)).trans hx347_1
       replace hx347_2 := (HB.out.cell (zn w _ hx347_2)).trans hx347_2
       obtain ⟨HR347_2, HC347_2⟩ := zD2 hi347_2 hl347_2
       clear hi347_2 hl347_2
       replace p347 := eq_true p347
       replace q347 := eq_true q347
       refine start_ (n := 13) (S := fun w' => w'.cell? ⟨gb328, 0, none⟩ = some (.slice Ao52 y339.length co52) ∧ w'.cell? ⟨gb328, 1, none⟩ = some (.int .i64 (wrap64 (x329001_3 + 1))) ∧ w'.cell? ⟨gb328, 2, none⟩ = some (.int .i64 x329002_3) ∧ w'.cell? (ad334.add (x11_3).toNat) = some (.int .i64 (rd l2 x11_3)) ∧ w'.cell? (ad335.add (((rd l2 x11_3)).toNat * 3)) = some (.string ((rd_T58 l0 (rd l2 x11_3)).f0)) ∧ w'.cell? ⟨(ad335.add (((rd l2 x11_3)).toNat * 3)).block, (ad335.add (((rd l2 x11_3)).toNat * 3)).off + 1, none⟩ = some (.int .i64 ((rd_T58 l0 (rd l2 x11_3)).f1)) ∧ w'.cell? ⟨(ad335.add (((rd l2 x11_3)).toNat * 3)).block, (ad335.add (((rd l2 x11_3)).toNat * 3)).off + 2, none⟩ = some (.slice A347_2 ((rd_T58 l0 (rd l2 x11_3)).f2).length c347_2)) (ds := [12]) b12A0 zG128 rfl rfl ⟨(zi BK328.out 0).trans rfl, (zi BK328.out 1).trans rfl, (zi BK328.out 2).trans rfl, ((HB.out.cell (zn w _ hw346_0)).trans hw346_0), ((HB.out.cell (zn w _ hw347_0)).trans hw347_0), ((HB.out.cell (zn w _ hw347_1)).trans hw347_1), ((HB.out.cell (zn w _ hw347_2)).trans hw347_2)⟩ (fun hHeld => ?_); refine with_tabW spec_SourceOf.tab23 spec_SourceOf.bits23 (fun HT_ HW_ => ?_)
       generalize w60.drew = w61 at HO_9 HO341 BK326 BK328 HB HR347_2 hx346_0 hx347_0 hx347_1 hx347_2 hHeld ⊢
       refine zP 0 104 b12A1 HT_ ?_
       refine zP 2 106 #[true, false, true, false, false, false, false, false, false, false, false, false, false] HT_ ?_
       refine zP 3 107 #[true, false, true, true, false, false, false, false, false, false, false, false, false] HT_ ?_
       refine zP 4 108 #[true, false, true, true, true, false, false, false, false, false, false, false, false] HT_ ?_
       refine zP 5 109 #[true, false, true, true, true, true, false, false, false, false, false, false, false] HT_ ?_
       refine zQ 1 105 #[true, true, true, true, true, true, false, false, false, false, false, false, false] HT_ HW_ hHeld ?_
       refine zQ 6 110 #[true, true, true, true, true, true, true, false, false, false, false, false, false] HT_ HW_ hHeld ?_
       refine zP 7 111 #[true, true, true, true, true, true, true, true, false, false, false, false, false] HT_ ?_
       refine zP 8 112 #[true, true, true, true, true, true, true, true, true, false, false, false, false] HT_ ?_
       refine zQ 9 113 b12A2 HT_ HW_ hHeld ?_
       refine zP 10 114 b12A3 HT_ ?_
       refine zP 11 115 b12A4 HT_ ?_
       refine last_ (i := 12) (N := none) b12A5 rfl rfl (one_of HT_.out zG128) zG129 (fun K hK => ?_)
       have hs62 : w61.cell? ⟨gb328, 2, none⟩ = some (.int .i64 x329002_3) := (zi BK328.out 2).trans rfl
       have hfs62 := zm BK328.out 2
       have hns62_0 := NB326_328.out
       have hms62_0 := NB328_326.out
       refine skip_ (w1 := ?_) (by rfl) rfl ?_ ?_
       rotate_left
       ·go_simp
        rfl
       refine hK.out _ _ ?_
       clear hK K
       refine done_ (done_of HT_.out zG128) ?_
       try go_wp2
       go_roundg k3
       case measure => have := HJ3.out; have := HK2.out; have := HK3.out; omega
       case rel => exact ⟨(y345), (wrap64 (x11_3 + 1)), (x327001_3), (x327002_3), (y339), (wrap64 (x329001_3 + 1)), (wrap64 (x329002_3 + ((rd_T58 l0 (rd l2 x11_3)).f1))), (.slice Ao52 y339.length co52), zG127, H', ⟨by have := HJ3.out; have := HK2.out; have := HK3.out; omega⟩, ⟨by (with_reducible repeat (first | apply zj | apply zk | apply zl)); exact zs (zo (p := ⟨gb328, 2, none⟩) (zt HO_9.out BK328.out zG129) (fun _ hk => hk.2) (.int .i64 (wrap64 (x329002_3 + ((rd_T58 l0 (rd l2 x11_3)).f1))))) (fun _ hk => trivial)⟩, ⟨by (with_reducible repeat (first | apply zj | apply zk | apply zl)); exact zs (zo (p := ⟨gb328, 2, none⟩) (zt HO341.out BK328.out zG129) (fun _ hk => hk.2) (.int .i64 (wrap64 (x329002_3 + ((rd_T58 l0 (rd l2 x11_3)).f1))))) (fun _ hk => trivial)⟩, ⟨zH36⟩, ⟨by (with_reducible repeat (first | refine zc ?_ _ | refine zd ?_ | refine zb ?_ _)); refine zw (cs := #[.slice Ao52 y339.length co52, .int .i64 (wrap64 (x329001_3 + 1)), .int .i64 x329002_3]) ?_ 2 _ rfl; (with_reducible repeat (first | refine zc ?_ _ | refine zd ?_ | refine zb ?_ _)); exact BK328.out⟩, ⟨zH55⟩⟩
end Go.Proofs.Ytojncbpeeboooaa.X
