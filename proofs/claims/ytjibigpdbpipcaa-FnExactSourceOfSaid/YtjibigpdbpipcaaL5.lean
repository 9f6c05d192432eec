-- squeezed
-- made by pp.py (wip/tools) out of the translation; Lean checks it
import Derived.Test.YtjibigpdbpipcaaL0
import Derived.Test.YtjibigpdbpipcaaL1
import Derived.Test.YtjibigpdbpipcaaL4
namespace Go.Proofs.Ytjibigpdbpipcaa.L
open Go.RowKit Go.Proofs.YtjibigpdbpipcaaW.PrintWords Go.Proofs.YtjibigpdbpipcaaW.PrintLast Go.Proofs.YtjibigpdbpipcaaW.PrintMore
attribute [local go_sem] max2_int min2_int max_two min_two max_three min_three max_four min_four   -- for this text's walks alone
set_option linter.unusedVariables false
set_option linter.unusedSimpArgs false

abbrev b5A0 : Array Bool := #[false, false, false, false, false, false, false, false, false, false, false, false, false]
abbrev b5A1 : Array Bool := #[true, false, false, false, false, false, false, false, false, false, false, false, false]
abbrev b5A2 : Array Bool := #[true, true, true, true, true, true, true, true, true, true, false, false, false]
abbrev b5A3 : Array Bool := #[true, true, true, true, true, true, true, true, true, true, true, false, false]
abbrev b5A4 : Array Bool := #[true, true, true, true, true, true, true, true, true, true, true, true, false]
abbrev b5A5 : Array Bool := #[true, true, true, true, true, true, true, true, true, true, true, true, true]
abbrev b5A6 : Array Bool := #[true, true, false, false, false, false, false, false, false, false, false, false, false]
abbrev b5A7 : Array Bool := #[true, true, true, false, false, false, false, false, false, false, false, false, false]
abbrev b5A8 : Array Bool := #[true, true, true, true, false, false, false, false, false, false, false, false, false]
abbrev b5A9 : Array Bool := #[true, true, true, true, false, false, false, true, false, false, false, false, false]
abbrev b5A10 : Array Bool := #[true, true, true, true, false, false, false, true, true, false, false, false, false]
abbrev b5A11 : Array Bool := #[true, true, true, true, false, false, false, true, true, true, false, false, false]
abbrev b5A12 : Array Bool := #[true, true, true, true, true, false, false, true, true, true, false, false, false]
abbrev b5A13 : Array Bool := #[true, true, true, true, true, true, false, true, true, true, false, false, false]
abbrev b5A14 : Array Bool := #[false, false, false, false, false, false, false, false, false, false]
abbrev b5A15 : Array Bool := #[true, false, false, false, false, false, false, false, false, false]
abbrev b5A16 : Array Bool := #[true, false, true, false, false, false, false, false, false, false]
abbrev b5A17 : Array Bool := #[true, false, true, true, false, false, false, false, false, false]
abbrev b5A18 : Array Bool := #[true, false, true, true, true, false, false, false, false, false]
abbrev b5A19 : Array Bool := #[true, true, true, true, true, false, false, false, false, false]
abbrev b5A20 : Array Bool := #[true, true, true, true, true, true, false, false, false, false]
abbrev b5A21 : Array Bool := #[true, true, true, true, true, true, true, false, false, false]
abbrev b5A22 : Array Bool := #[true, true, true, true, true, true, true, true, false, false]
abbrev b5A23 : Array Bool := #[true, true, true, true, true, true, true, true, true, false]
abbrev b5A24 : Array Bool := #[true, true, true, true, true, true, true, true, true, true]
/-! ### spec_SourceOf: function 7 -/
mutual
def spec_SourceOf.j0 : Nat → List (S75) → List (S76) → List Int → Bool → Option (List Int × Int × Int × Int)
 | 0, _, _, _, _ => none
 | k + 1, x0, x1, x2, x24 => if x24 = true then (some (([] : List Int), 0, 0, 2)) else ((spec_SourcesOK.f k x0 x1).bind fun t128 => (if t128 = true then (if (x2.length : Int) = (x1.length : Int) then (if 0 ≤ (x0.length : Int) then (if ((x0.length : Int) : Int).toNat ≤ 281474976710656 then (spec_SourceOf.l0 k x0 x1 x2 (List.replicate ((x0.length : Int) : Int).toNat false) 0 0 0) else (none)) else (none)) else (some (([] : List Int), 0, 0, 3))) else (some (([] : List Int), 0, 0, 1))))
def spec_SourceOf.l0 : Nat → List (S75) → List (S76) → List Int → List Bool → Int → Int → Int → Option (List Int × Int × Int × Int)
 | 0, _, _, _, _, _, _, _ => none
 | k + 1, x0, x1, x2, x9, x10, x130001, x130002 => if x10 < (x2.length : Int) then (if 0 ≤ x10 then ((spec_l01In.f (rd x2 x10) 0 (wrap64 ((x0.length : Int) - 1))).bind fun t134 => (if t134 = true then (spec_SourceOf.l0 k x0 x1 x2 x9 (wrap64 (x10 + 1)) x130001 x130002) else (some (([] : List Int), 0, 0, 3)))) else (none)) else (spec_SourceOf.l1 k x0 x1 x2 x9 0 ([] : List Int) x130001 x130002)
def spec_SourceOf.l1 : Nat → List (S75) → List (S76) → List Int → List Bool → Int → List Int → Int → Int → Option (List Int × Int × Int × Int)
 | 0, _, _, _, _, _, _, _, _ => none
 | k + 1, x0, x1, x2, x9, x11, x130000, x130001, x130002 => if x11 < (x2.length : Int) then (if 0 ≤ x11 then (if 0 ≤ (rd x2 x11) then (if (rd x2 x11) < (x0.length : Int) then (if x11 < (x1.length : Int) then ((spec_l23Has.f k ((rd_T75 x0 (rd x2 x11)).f0) ((rd_T75 x0 (rd x2 x11)).f1) ((rd_T75 x0 (rd x2 x11)).f2) ((rd_T76 x1 x11).f0) ((rd_T76 x1 x11).f1)).bind fun t138 => (if t138 = true then (if x130000.length < 17592186044416 then ((some (x130000 ++ [rd x2 x11] : List Int)).bind fun y140 => (if (rd x2 x11) < (x9.length : Int) then (if (rdOf false x9 (rd x2 x11) = true) then (spec_SourceOf.l1 k x0 x1 x2 x9 (wrap64 (x11 + 1)) y140 x130001 x130002) else (spec_SourceOf.l1 k x0 x1 x2 (x9.set ((rd x2 x11) : Int).toNat true) (wrap64 (x11 + 1)) y140 (wrap64 (x130001 + 1)) (wrap64 (x130002 + ((rd_T75 x0 (rd x2 x11)).f1))))) else (none))) else (none)) else (some (([] : List Int), 0, 0, 19)))) else (none)) else (none)) else (none)) else (none)) else (some (x130000, x130001, x130002, 0))
end
def spec_SourceOf.f (k : Nat) (l0 : List (S75)) (l1 : List (S76)) (l2 : List Int) : Option (List Int × Int × Int × Int) := if (l0.length : Int) > 4096 then (spec_SourceOf.j0 k l0 l1 l2 true) else (if (l1.length : Int) > 4096 then (spec_SourceOf.j0 k l0 l1 l2 true) else (spec_SourceOf.j0 k l0 l1 l2 (decide ((l2.length : Int) > 4096))))
theorem spec_SourceOf.mono_l : ∀ k, (∀ y0 y1 y2 y3, LeO (spec_SourceOf.j0 k y0 y1 y2 y3) (spec_SourceOf.j0 (k + 1) y0 y1 y2 y3)) ∧ (∀ y0 y1 y2 y3 y4 y5 y6, LeO (spec_SourceOf.l0 k y0 y1 y2 y3 y4 y5 y6) (spec_SourceOf.l0 (k + 1) y0 y1 y2 y3 y4 y5 y6)) ∧ (∀ y0 y1 y2 y3 y4 y5 y6 y7, LeO (spec_SourceOf.l1 k y0 y1 y2 y3 y4 y5 y6 y7) (spec_SourceOf.l1 (k + 1) y0 y1 y2 y3 y4 y5 y6 y7))
 | 0 => ⟨fun _ _ _ _ r h => by simp [spec_SourceOf.j0] at h, fun _ _ _ _ _ _ _ r h => by simp [spec_SourceOf.l0] at h, fun _ _ _ _ _ _ _ _ r h => by simp [spec_SourceOf.l1] at h⟩
 | k + 1 => by
  obtain ⟨ih0, ih1, ih2⟩ := spec_SourceOf.mono_l k
  refine ⟨?_, ?_, ?_⟩
  ·intro y0 y1 y2 y3
   unfold spec_SourceOf.j0
   repeat' first
   | (with_reducible exact ih0 _ _ _ _)
   | (with_reducible exact ih1 _ _ _ _ _ _ _)
   | (with_reducible exact ih2 _ _ _ _ _ _ _ _)
   | (with_reducible exact spec_SourcesOK.mono _ _ _)
   | (with_reducible exact spec_l23Has.mono _ _ _ _ _ _)
   | (with_reducible exact LeO.refl _)
   | (with_reducible exact LeO.none _)
   | (with_reducible refine LeO.ite ?_ ?_)
   | (with_reducible refine LeO.bind ?_ (fun _ => ?_))
   | exact ih0 _ _ _ _
   | exact ih1 _ _ _ _ _ _ _
   | exact ih2 _ _ _ _ _ _ _ _
   | exact spec_SourcesOK.mono _ _ _
   | exact spec_l23Has.mono _ _ _ _ _ _
   | exact LeO.none _
   | refine LeO.ite ?_ ?_
   | refine LeO.bind ?_ (fun _ => ?_)
  ·intro y0 y1 y2 y3 y4 y5 y6
   unfold spec_SourceOf.l0
   repeat' first
   | (with_reducible exact ih0 _ _ _ _)
   | (with_reducible exact ih1 _ _ _ _ _ _ _)
   | (with_reducible exact ih2 _ _ _ _ _ _ _ _)
   | (with_reducible exact spec_SourcesOK.mono _ _ _)
   | (with_reducible exact spec_l23Has.mono _ _ _ _ _ _)
   | (with_reducible exact LeO.refl _)
   | (with_reducible exact LeO.none _)
   | (with_reducible refine LeO.ite ?_ ?_)
   | (with_reducible refine LeO.bind ?_ (fun _ => ?_))
   | exact ih0 _ _ _ _
   | exact ih1 _ _ _ _ _ _ _
   | exact ih2 _ _ _ _ _ _ _ _
   | exact spec_SourcesOK.mono _ _ _
   | exact spec_l23Has.mono _ _ _ _ _ _
   | exact LeO.none _
   | refine LeO.ite ?_ ?_
   | refine LeO.bind ?_ (fun _ => ?_)
  ·intro y0 y1 y2 y3 y4 y5 y6 y7
   unfold spec_SourceOf.l1
   repeat' first
   | (with_reducible exact ih0 _ _ _ _)
   | (with_reducible exact ih1 _ _ _ _ _ _ _)
   | (with_reducible exact ih2 _ _ _ _ _ _ _ _)
   | (with_reducible exact spec_SourcesOK.mono _ _ _)
   | (with_reducible exact spec_l23Has.mono _ _ _ _ _ _)
   | (with_reducible exact LeO.refl _)
   | (with_reducible exact LeO.none _)
   | (with_reducible refine LeO.ite ?_ ?_)
   | (with_reducible refine LeO.bind ?_ (fun _ => ?_))
   | exact ih0 _ _ _ _
   | exact ih1 _ _ _ _ _ _ _
   | exact ih2 _ _ _ _ _ _ _ _
   | exact spec_SourcesOK.mono _ _ _
   | exact spec_l23Has.mono _ _ _ _ _ _
   | exact LeO.none _
   | refine LeO.ite ?_ ?_
   | refine LeO.bind ?_ (fun _ => ?_)
theorem spec_SourceOf.mono : ∀ a0 a1 a2 k, LeO (spec_SourceOf.f k a0 a1 a2) (spec_SourceOf.f (k + 1) a0 a1 a2) := by
 intro a0 a1 a2 k
 obtain ⟨ih0, ih1, ih2⟩ := spec_SourceOf.mono_l k
 unfold spec_SourceOf.f
 repeat' first
   | (with_reducible exact ih0 _ _ _ _)
   | (with_reducible exact ih1 _ _ _ _ _ _ _)
   | (with_reducible exact ih2 _ _ _ _ _ _ _ _)
   | (with_reducible exact spec_SourcesOK.mono _ _ _)
   | (with_reducible exact spec_l23Has.mono _ _ _ _ _ _)
   | (with_reducible exact LeO.refl _)
   | (with_reducible exact LeO.none _)
   | (with_reducible refine LeO.ite ?_ ?_)
   | (with_reducible refine LeO.bind ?_ (fun _ => ?_))
   | exact ih0 _ _ _ _
   | exact ih1 _ _ _ _ _ _ _
   | exact ih2 _ _ _ _ _ _ _ _
   | exact spec_SourcesOK.mono _ _ _
   | exact spec_l23Has.mono _ _ _ _ _ _
   | exact LeO.none _
   | refine LeO.ite ?_ ?_
   | refine LeO.bind ?_ (fun _ => ?_)
def spec_SourceOf.T17 : Bool × List (List Nat × List Nat) := (true, [([], []), ([], []), ([], []), ([1, 2], [1, 2]), ([3], [3]), ([0, 4], [0, 4]), ([5], [5]), ([], []), ([], []), ([7, 8], [7, 8]), ([9], [9]), ([6, 10], [6, 10]), ([11], [11])])
def spec_SourceOf.B17 : List Nat := [0, 0, 0, 6, 14, 31, 63, 0, 0, 384, 896, 2047, 4095]
theorem spec_SourceOf.tab17 : rtab .any (opsOf Try.f7 17) = spec_SourceOf.T17 := by kernel_rfl
theorem spec_SourceOf.bits17 : waitsOk spec_SourceOf.T17.2 spec_SourceOf.B17 = true := by kernel_rfl
def spec_SourceOf.T19 : Bool × List (List Nat × List Nat) := (true, [([], []), ([0], [0]), ([], []), ([], []), ([2, 3], [2, 3]), ([4], [4]), ([5], [5]), ([1, 6], [1, 6]), ([0, 1, 2, 3, 4, 5, 6, 7], []), ([8, 7, 7, 0, 1, 2, 3, 4, 5, 6, 7], [7, 8])])
def spec_SourceOf.B19 : List Nat := [0, 1, 0, 0, 12, 28, 60, 127, 255, 511]
theorem spec_SourceOf.tab19 : rtab .any (opsOf Try.f7 19) = spec_SourceOf.T19 := by kernel_rfl
theorem spec_SourceOf.bits19 : waitsOk spec_SourceOf.T19.2 spec_SourceOf.B19 = true := by kernel_rfl
def spec_SourceOf.T23 : Bool × List (List Nat × List Nat) := (true, [([], []), ([0], [0]), ([], []), ([], []), ([], []), ([3, 4], [3, 4]), ([5], [5]), ([2, 6], [2, 6]), ([7], [7]), ([8], [8]), ([1, 9], [1, 9]), ([0, 1, 2, 3, 4, 5, 6, 7, 8, 9, 10], []), ([11, 10, 0, 1, 2, 3, 4, 5, 6, 7, 8, 9, 10], [10, 11])])
def spec_SourceOf.B23 : List Nat := [0, 1, 0, 0, 0, 24, 56, 124, 252, 508, 1023, 2047, 4095]
theorem spec_SourceOf.tab23 : rtab .any (opsOf Try.f7 23) = spec_SourceOf.T23 := by kernel_rfl
theorem spec_SourceOf.bits23 : waitsOk spec_SourceOf.T23.2 spec_SourceOf.B23 = true := by kernel_rfl
set_option maxHeartbeats 8000000 in
set_option maxRecDepth 100000 in
theorem spec_SourceOf.calls (k : Nat) (A0 : Option Addr) (c0 : Nat) (l0 : List (S75)) (A1 : Option Addr) (c1 : Nat) (l1 : List (S76)) (A2 : Option Addr) (c2 : Nat) (l2 : List Int) (r1 : List Int) (r2 : Int) (r3 : Int) (r4 : Int) (w : World) (hr0 : Kd.C k75 w A0 l0.length l0) (hc0 : l0.length ≤ c0) (hr1 : Kd.C k76 w A1 l1.length l1) (hc1 : l1.length ≤ c1) (hr2 : Kd.C (Kd.int .i64) w A2 l2.length l2) (hc2 : l2.length ≤ c2) (h : spec_SourceOf.f k l0 l1 l2 = some (r1, r2, r3, r4)) :
  Calls Try.prog 7 #[.slice A0 l0.length c0, .slice A1 l1.length c1, .slice A2 l2.length c2] w fun e w' => ∃ v0_ : Value, e = .returned (.tuple #[.agg #[v0_, .int .i64 r2, .int .i64 r3], .int .i64 r4]) ∧ Kd.R (Kd.int .i64) 3 w' w.heap.size (fun _ => True) v0_ r1 ∧ Below w.heap.size w w' := by
 have hu28 := Try.underlying28
 have hu75 := Try.underlying75
 have hu76 := Try.underlying76
 have HR0 := za hr0
 have HC0 := za hc0
 clear hr0 hc0
 have HR1 := za hr1
 have HC1 := za hc1
 clear hr1 hc1
 have HR2 := za hr2
 have HC2 := za hc2
 clear hr2 hc2
 have HB := za (Below.refl w.heap.size w)
 have H : (if (l0.length : Int) > 4096 then (spec_SourceOf.j0 k l0 l1 l2 true) else (if (l1.length : Int) > 4096 then (spec_SourceOf.j0 k l0 l1 l2 true) else (spec_SourceOf.j0 k l0 l1 l2 (decide ((l2.length : Int) > 4096))))) = some (r1, r2, r3, r4) := h
 clear h
 have HC4 := za H
 clear H
 go_enter Try.func7, Try.ntmps7
 go_upto_region 1 with (first | ((with_reducible refine gate_dst (N := 6) rfl ?_); (try (refine gate_guard (by rfl) ?_; dsimp only)); refine box_event ?hg (N := 6) ?hd (cs := #[.slice none 0 0, .int .i64 0, .int .i64 0]) (t := 28) ?hr ?_; (case hd => rfl); (case hg => rfl); (case hr => first | (go_simp; done) | (go_simp; rfl)); intro gb127 hg w5 hbox hb; have n0_ := za (zq zG72 hb); have n1_ := za (hbox); have n2_ := za ((by rw [hg]; exact (zo zG72) : w.heap.size ≤ gb127)); have n3_ := za ((by rw [hg]; exact (zo zG72) : w.heap.size ≤ gb127)); clear HB; have HB := n0_; have BK127 := n1_; have GW127 := n2_; have GE127 := n3_; clear n0_ n1_ n2_ n3_; clear hb hbox hg))
 (try simp only [Act.put, List.setIfInBounds_toArray, List.set_cons_zero, List.set_cons_succ])
 go_cut [24] (fun v24 wc => ∃ (kq : Nat) (x24_3 : Bool), v24 = .bool x24_3 ∧ Aside0 (spec_SourceOf.j0 kq l0 l1 l2 x24_3 = some (r1, r2, r3, r4)) ∧ Aside0 (kq ≤ k) ∧ Aside0 (wc.heap[gb127]? = some (.cells #[(.slice none 0 0), .int .i64 0, .int .i64 0] 28 (0, 0))) ∧ Aside0 (Below w.heap.size w wc))
 case first =>
  have H := HC4.out
  clear HC4
  by_cases c6 : (l0.length : Int) > 4096
  ·rw [if_pos c6] at H
   have c6b0 : decide (4096 < (l0.length : Int)) = true := decide_eq_true c6
   have c6b1 : decide (4096 < l0.length) = true := decide_eq_true (by omega)
   clear c6
   (first | rw [c6b0] | (simp only [i64_w, i32_w]; rw [c6b0]) | skip)
   have H' := za H
   clear H
   go_wp2
   go_meet
   case rel => exact ⟨_, (true), zG82, H', ⟨by first | omega | exact Nat.le_refl _⟩, ⟨by (with_reducible repeat (first | refine zh ?_ _ | refine zi ?_ | refine zg ?_ _)); exact BK127.out⟩, ⟨by repeat (first | (with_reducible first | exact HB.out | apply zd | apply zb | apply zc | refine zf ?_ GE127.out) | exact HB.out)⟩⟩
  ·rw [if_neg c6] at H
   have c6b0 : decide (4096 < (l0.length : Int)) = false := decide_eq_false c6
   have c6b1 : decide (4096 < l0.length) = false := decide_eq_false (by omega)
   clear c6
   (first | rw [c6b0] | (simp only [i64_w, i32_w]; rw [c6b0]) | skip)
   by_cases c7 : (l1.length : Int) > 4096
   ·rw [if_pos c7] at H
    have c7b0 : decide (4096 < (l1.length : Int)) = true := decide_eq_true c7
    have c7b1 : decide (4096 < l1.length) = true := decide_eq_true (by omega)
    clear c7
    have H' := za H
    clear H
    go_wp2
    go_meet
    case rel => exact ⟨_, (true), zG82, H', ⟨by first | omega | exact Nat.le_refl _⟩, ⟨by (with_reducible repeat (first | refine zh ?_ _ | refine zi ?_ | refine zg ?_ _)); exact BK127.out⟩, ⟨by repeat (first | (with_reducible first | exact HB.out | apply zd | apply zb | apply zc | refine zf ?_ GE127.out) | exact HB.out)⟩⟩
   ·rw [if_neg c7] at H
    have c7b0 : decide (4096 < (l1.length : Int)) = false := decide_eq_false c7
    have c7b1 : decide (4096 < l1.length) = false := decide_eq_false (by omega)
    clear c7
    have H' := za H
    clear H
    go_wp2
    go_meet
    case rel => exact ⟨_, (decide ((l2.length : Int) > 4096)), zG82, H', ⟨by first | omega | exact Nat.le_refl _⟩, ⟨by (with_reducible repeat (first | refine zh ?_ _ | refine zi ?_ | refine zg ?_ _)); exact BK127.out⟩, ⟨by repeat (first | (with_reducible first | exact HB.out | apply zd | apply zb | apply zc | refine zf ?_ GE127.out) | exact HB.out)⟩⟩
 case rest =>
  clear HC4
  try clear c1
  try clear c2
  try clear p2
  try clear c6
  try clear c6b0
  try clear c6b1
  try clear c7
  try clear c7b0
  try clear c7b1
  obtain ⟨kq, x24_3, rfl, HA, HJ3, BK127, HB⟩ := hcut
  cases kq with
  | zero => exact absurd HA.out (by simp [spec_SourceOf.j0])
  | succ kj3 =>
   have H := HA.out
   clear HA
   simp only [spec_SourceOf.j0] at H
   by_cases c8 : x24_3 = true
   ·subst c8
    have H1 : (some (([] : List Int), 0, 0, 2)) = some (r1, r2, r3, r4) := by rw [if_pos rfl] at H; exact H
    clear H
    have H := H1
    clear H1
    simp only [Option.some.injEq, Prod.mk.injEq] at H
    obtain ⟨rfl, rfl, rfl, rfl⟩ := H
    have hcz9_0 : wc.cell? ⟨gb127, 0, none⟩ = some (.slice none 0 0) := (zm BK127.out 0).trans rfl
    have hcz9_1 : wc.cell? ⟨gb127, 1, none⟩ = some (.int .i64 0) := (zm BK127.out 1).trans rfl
    have hcz9_2 : wc.cell? ⟨gb127, 2, none⟩ = some (.int .i64 0) := (zm BK127.out 2).trans rfl
    have hfz9_0 := zj BK127.out 0
    have hfz9_1 := zj BK127.out 1
    have hfz9_2 := zj BK127.out 2
    go_wp2
    refine bodyPost_ret (results_ct rfl _ _ gb127 28 #[.slice none 0 0, .int .i64 0, .int .i64 0] (0, 0) _ rfl (by (with_reducible repeat (first | refine zh ?_ _ | refine zi ?_ | refine zg ?_ _)); refine zy (cs := #[.slice none 0 0, .int .i64 0, .int .i64 0]) ?_ 2 _ rfl; (with_reducible repeat (first | refine zh ?_ _ | refine zi ?_ | refine zg ?_ _)); refine zy (cs := #[.slice none 0 0, .int .i64 0, .int .i64 0]) ?_ 1 _ rfl; (with_reducible repeat (first | refine zh ?_ _ | refine zi ?_ | refine zg ?_ _)); refine zy (cs := #[.slice none 0 0, .int .i64 0, .int .i64 0]) ?_ 0 _ rfl; (with_reducible repeat (first | refine zh ?_ _ | refine zi ?_ | refine zg ?_ _)); exact BK127.out) Try.underlying28 rfl zG83) rfl ?_
    exact ⟨_, by first | rfl | (simp [errW_none, errW_some] <;> rfl) | (simp [*, errW_none, errW_some] <;> rfl), by first | exact zaw _ _ _ _ _ | exact zaz _ _ _ _ _ | exact zba _ _ _ _ _ | exact zbb _ _ _ _ _ | exact zbc _ _ _ _ _, by repeat (first | (with_reducible first | exact HB.out | apply zd | apply zb | apply zc | refine zf ?_ GE127.out) | exact HB.out)⟩
   ·replace c8 := Bool.eq_false_iff.mpr c8
    subst c8
    have H1 : ((spec_SourcesOK.f kj3 l0 l1).bind fun t128 => (if t128 = true then (if (l2.length : Int) = (l1.length : Int) then (if 0 ≤ (l0.length : Int) then (if ((l0.length : Int) : Int).toNat ≤ 281474976710656 then (spec_SourceOf.l0 kj3 l0 l1 l2 (List.replicate ((l0.length : Int) : Int).toNat false) 0 0 0) else (none)) else (none)) else (some (([] : List Int), 0, 0, 3))) else (some (([] : List Int), 0, 0, 1)))) = some (r1, r2, r3, r4) := by rw [if_neg (show ¬ (false = true) by decide)] at H; exact H
    clear H
    have H := H1
    clear H1
    replace H := Option.bind_eq_some_iff.mp H
    obtain ⟨t128, A100, H⟩ := H
    replace H : (if t128 = true then (if (l2.length : Int) = (l1.length : Int) then (if 0 ≤ (l0.length : Int) then (if ((l0.length : Int) : Int).toNat ≤ 281474976710656 then (spec_SourceOf.l0 kj3 l0 l1 l2 (List.replicate ((l0.length : Int) : Int).toNat false) 0 0 0) else (none)) else (none)) else (some (([] : List Int), 0, 0, 3))) else (some (([] : List Int), 0, 0, 1))) = some (r1, r2, r3, r4) := H
    have A10 := za A100
    clear A100
    by_cases c11 : t128 = true
    ·subst c11
     have H1 : (if (l2.length : Int) = (l1.length : Int) then (if 0 ≤ (l0.length : Int) then (if ((l0.length : Int) : Int).toNat ≤ 281474976710656 then (spec_SourceOf.l0 kj3 l0 l1 l2 (List.replicate ((l0.length : Int) : Int).toNat false) 0 0 0) else (none)) else (none)) else (some (([] : List Int), 0, 0, 3))) = some (r1, r2, r3, r4) := by rw [if_pos rfl] at H; exact H
     clear H
     have H := H1
     clear H1
     by_cases c12 : (l2.length : Int) = (l1.length : Int)
     ·rw [if_pos c12] at H
      have c12b0 : ((l2.length : Int) == (l1.length : Int)) = true := beq_iff_eq.mpr c12
      have c12b1 : ((l2.length : Int) != (l1.length : Int)) = false := bne_eq_false_iff_eq.mpr c12
      have c12b2 : (l2.length == l1.length) = true := by first | simpa using c12 | (simp at c12 ⊢; omega)
      clear c12
      by_cases c13 : 0 ≤ (l0.length : Int)
      ·rw [if_pos c13] at H
       have c13b0 := eq_true c13
       have c13b1 : decide (0 ≤ (l0.length : Int)) = true := decide_eq_true c13
       clear c13
       by_cases c14 : ((l0.length : Int) : Int).toNat ≤ 281474976710656
       ·rw [if_pos c14] at H
        have c14b0 := eq_true c14
        have c14b1 : decide (((l0.length : Int) : Int).toNat ≤ 281474976710656) = true := decide_eq_true c14
        clear c14
        obtain ⟨y130, hy130⟩ : ∃ y_ : List Bool, y_ = (List.replicate ((l0.length : Int) : Int).toNat false) := ⟨_, rfl⟩
        replace H : (spec_SourceOf.l0 kj3 l0 l1 l2 y130 0 0 0) = some (r1, r2, r3, r4) := by first | (rw [hy130]; with_reducible exact H) | (have H2_ := (Option.bind_some _ _).symm.trans H; rw [hy130]; with_reducible exact H2_) | (have H2_ := (Option.bind_some _ _).symm.trans H; with_reducible exact H2_) | with_reducible exact H | (rw [hy130]; exact H) | exact H
        have Ny130 := za hy130
        clear hy130
        have H' := za H
        clear H
        go_wp2_with (first | ((with_reducible refine gate_callee (f := 36) rfl ?_); refine goesL_ (some 28) rfl rfl Try.func36 zG83 rfl #[.slice A0 l0.length c0, .slice A1 l1.length c1] rfl zG67 ?_; (with_reducible refine (spec_SourcesOK.calls kj3 _ _ l0 _ _ l1 true _ ?side1 ?side2 ?side3 ?side4 A10.out).mono ?_); (case side1 => repeat (first | exact (zw HR0.out HB.out) | (with_reducible refine zs ?_ _) | (with_reducible refine zt ?_ _) | (with_reducible refine zu ?_))); (case side2 => exact HC0.out); (case side3 => repeat (first | exact (zw HR1.out HB.out) | (with_reducible refine zs ?_ _) | (with_reducible refine zt ?_ _) | (with_reducible refine zu ?_))); (case side4 => exact HC1.out); rintro e w15 ⟨rfl, hb⟩; refine ⟨_, rfl, ?_⟩; have n0_ := za (zr (g := gb127) (o := .cells #[.slice none 0 0, .int .i64 0, .int .i64 0] 28 (0, 0)) zG73 hb); have n1_ := za (zq (by repeat (first | (with_reducible first | exact HB.out | apply zd | apply zb | apply zc | refine zf ?_ GE127.out) | exact HB.out)) hb); clear BK127; clear HB; have BK127 := n0_; have HB := n1_; clear n0_ n1_; (try clear hb); (try clear hb2); (try clear hk); (try clear hi)) | ((with_reducible refine gate_dst (N := 8) rfl ?_); (try (refine gate_guard (by rfl) ?_; dsimp only)); refine box_event ?hg (N := 8) ?hd (cs := #[.slice none 0 0, .int .i64 0, .int .i64 0]) (t := 28) ?hr ?_; (case hd => rfl); (case hg => rfl); (case hr => first | (go_simp; done) | (go_simp; rfl)); intro gb129 hg w16 hbox hb; have n0_ := za (zr (g := gb127) (o := .cells #[.slice none 0 0, .int .i64 0, .int .i64 0] 28 (0, 0)) zG73 hb); have n1_ := za (zq (by repeat (first | (with_reducible first | exact HB.out | apply zd | apply zb | apply zc | refine zf ?_ GE127.out) | exact HB.out)) hb); have n2_ := za (hbox); have n3_ := za ((by rw [hg]; exact (zo (by repeat (first | (with_reducible first | exact HB.out | apply zd | apply zb | apply zc | refine zf ?_ GE127.out) | exact HB.out))) : w.heap.size ≤ gb129)); have n4_ := za ((by rw [hg]; exact (zo (by repeat (first | (with_reducible first | exact HB.out | apply zd | apply zb | apply zc | refine zf ?_ GE127.out) | exact HB.out))) : w.heap.size ≤ gb129)); have n5_ := za ((by rw [hg]; exact Nat.ne_of_lt (zad (g := gb127) (o := .cells #[.slice none 0 0, .int .i64 0, .int .i64 0] 28 (0, 0)) zG73) : gb127 ≠ gb129)); have n6_ := za ((by rw [hg]; exact Nat.ne_of_gt (zad (g := gb127) (o := .cells #[.slice none 0 0, .int .i64 0, .int .i64 0] 28 (0, 0)) zG73) : gb129 ≠ gb127)); clear BK127; clear HB; have BK127 := n0_; have HB := n1_; have BK129 := n2_; have GW129 := n3_; have GE129 := n4_; have NB127_129 := n5_; have NB129_127 := n6_; clear n0_ n1_ n2_ n3_ n4_ n5_ n6_; clear hb hbox hg; have hnb17 := NB129_127.out; have hnc17 := NB127_129.out; have hcz18_0 : w16.cell? ⟨gb129, 0, none⟩ = some (.slice none 0 0) := (zm BK129.out 0).trans rfl; have hcz18_1 : w16.cell? ⟨gb129, 1, none⟩ = some (.int .i64 0) := (zm BK129.out 1).trans rfl; have hcz18_2 : w16.cell? ⟨gb129, 2, none⟩ = some (.int .i64 0) := (zm BK129.out 2).trans rfl; have hfz18_0 := zj BK129.out 0; have hfz18_1 := zj BK129.out 1; have hfz18_2 := zj BK129.out 2) | ((with_reducible refine gate_dst (N := 40) rfl ?_); (try (refine gate_guard (by rfl) ?_; dsimp only)); refine Kd.R_make Kd.bool _ 4 rfl (N := 40) rfl 71 _ _ rfl (l0.length : Int) rfl rfl Try.underlying71 (.bool false) 1 info4 rfl (by decide) (by omega) false (ok := fun _ => True) (okp := fun _ => True) rfl (fun _ hk => hk) trivial zO (Nat.le_trans (Nat.mul_le_mul_right _ (zO : (l0.length : Int).toNat ≤ 281474976710656)) (by omega)) (Below.refl _ _) (Nat.le_refl _) ?_; intro v131 w19 ho20 hb hg_ hnew_; clear hg_ hnew_; (first | rw [← Ny130.out] at ho20 | (simp only [Int.reduceToNat] at ho20; rw [← Ny130.out] at ho20)); have n0_ := za (zaj ho20 (zo zG65)); have n1_ := za (zr (g := gb127) (o := .cells #[.slice none 0 0, .int .i64 0, .int .i64 0] 28 (0, 0)) (by (with_reducible repeat (first | refine zh ?_ _ | refine zi ?_ | refine zg ?_ _)); refine zag ?_ NB127_129.out _; (with_reducible repeat (first | refine zh ?_ _ | refine zi ?_ | refine zg ?_ _)); refine zag ?_ NB127_129.out _; (with_reducible repeat (first | refine zh ?_ _ | refine zi ?_ | refine zg ?_ _)); refine zag ?_ NB127_129.out _; (with_reducible repeat (first | refine zh ?_ _ | refine zi ?_ | refine zg ?_ _)); exact BK127.out) hb); have n2_ := za (zr (g := gb129) (o := .cells #[.slice none 0 0, .int .i64 0, .int .i64 0] 28 (0, 0)) (by (with_reducible repeat (first | refine zh ?_ _ | refine zi ?_ | refine zg ?_ _)); refine zy (cs := #[.slice none 0 0, .int .i64 0, .int .i64 0]) ?_ 2 _ rfl; (with_reducible repeat (first | refine zh ?_ _ | refine zi ?_ | refine zg ?_ _)); refine zy (cs := #[.slice none 0 0, .int .i64 0, .int .i64 0]) ?_ 1 _ rfl; (with_reducible repeat (first | refine zh ?_ _ | refine zi ?_ | refine zg ?_ _)); refine zy (cs := #[.slice none 0 0, .int .i64 0, .int .i64 0]) ?_ 0 _ rfl; (with_reducible repeat (first | refine zh ?_ _ | refine zi ?_ | refine zg ?_ _)); exact BK129.out) hb); have n3_ := za (zq zG65 hb); clear BK127; clear BK129; clear HB; have HO132 := n0_; have BK127 := n1_; have BK129 := n2_; have HB := n3_; clear n0_ n1_ n2_ n3_; clear hb ho20))
        go_loopg [10] kj3 (fun kq v10 w' => ∃ (x10_2 : Int) (x128001_2 : Int) (x128002_2 : Int), v10 = .int .i64 x10_2 ∧ Aside0 (spec_SourceOf.l0 kq l0 l1 l2 y130 x10_2 0 0 = some (r1, r2, r3, r4)) ∧ Aside0 (kq ≤ kj3) ∧ Aside0 (Kd.R Kd.bool 4 w' w.heap.size (fun _ => True) v131 y130) ∧ Aside0 (w'.heap[gb127]? = some (.cells #[(.slice none 0 0), .int .i64 x128001_2, .int .i64 x128002_2] 28 (0, 0))) ∧ Aside0 (w'.heap[gb129]? = some (.cells #[(.slice none 0 0), .int .i64 0, .int .i64 0] 28 (0, 0))) ∧ Aside0 (Below w.heap.size w w'))
        case atStart => exact ⟨(0), (0), (0), zG82, H', ⟨Nat.le_refl _⟩, ⟨by (with_reducible repeat (first | apply zk | apply zl | apply zn)); exact HO132.out⟩, ⟨by (with_reducible repeat (first | refine zh ?_ _ | refine zi ?_ | refine zg ?_ _)); exact BK127.out⟩, ⟨by (with_reducible repeat (first | refine zh ?_ _ | refine zi ?_ | refine zg ?_ _)); exact BK129.out⟩, ⟨by repeat (first | (with_reducible first | exact HB.out | apply zd | apply zb | apply zc | refine zf ?_ GE127.out | refine zf ?_ GE129.out) | exact HB.out)⟩⟩
        case round =>
         clear H'
         try clear c1
         try clear c2
         try clear p2
         try clear c3
         try clear c6
         try clear c6b0
         try clear c6b1
         try clear c7
         try clear c7b0
         try clear c7b1
         try clear c8
         try clear c11
         try clear c12
         try clear c12b0
         try clear c12b1
         try clear c12b2
         try clear c13
         try clear c13b0
         try clear c13b1
         try clear c14
         try clear c14b0
         try clear c14b1
         try clear c17
         try clear hcz18_0
         try clear hcz18_1
         try clear hcz18_2
         try clear hcz9_0
         try clear hcz9_1
         try clear hcz9_2
         try clear hfz18_0
         try clear hfz18_1
         try clear hfz18_2
         try clear hfz9_0
         try clear hfz9_1
         try clear hfz9_2
         try clear p2
         obtain ⟨x10_2, x128001_2, x128002_2, rfl, HA, HK2, HO_9, BK127, BK129, HB⟩ := hrel
         cases gk with
         | zero => exact absurd HA.out (by simp [spec_SourceOf.l0])
         | succ k2 =>
          have H := HA.out
          clear HA
          simp only [spec_SourceOf.l0] at H
          by_cases c21 : x10_2 < (l2.length : Int)
          ·rw [if_pos c21] at H
           have c21b0 : decide (x10_2 < (l2.length : Int)) = true := decide_eq_true c21
           clear c21
           by_cases c22 : 0 ≤ x10_2
           ·rw [if_pos c22] at H
            have c22b0 : decide (0 ≤ x10_2) = true := decide_eq_true c22
            clear c22
            replace H := Option.bind_eq_some_iff.mp H
            obtain ⟨t134, A230, H⟩ := H
            replace H : (if t134 = true then (spec_SourceOf.l0 k2 l0 l1 l2 y130 (wrap64 (x10_2 + 1)) 0 0) else (some (([] : List Int), 0, 0, 3))) = some (r1, r2, r3, r4) := H
            have A23 := za A230
            clear A230
            by_cases c24 : t134 = true
            ·subst c24
             have H1 : (spec_SourceOf.l0 k2 l0 l1 l2 y130 (wrap64 (x10_2 + 1)) 0 0) = some (r1, r2, r3, r4) := by rw [if_pos rfl] at H; exact H
             clear H
             have H := H1
             clear H1
             have H' := za H
             clear H
             have p133 : 0 ≤ (x10_2 : Int) := zO
             have q133 : x10_2 < (l2.length : Int) := zO
             obtain ⟨ad133, e133, hx133_0⟩ := zal HR2.out x10_2 p133 q133
             cases e133
             replace hx133_0 := (HB.out.cell (ze w _ hx133_0)).trans hx133_0
             replace p133 := eq_true p133
             replace q133 := eq_true q133
             go_wp2_with (first | ((with_reducible refine gate_callee (f := 37) rfl ?_); refine goesL_ (some 54) rfl rfl Try.func37 zG83 rfl #[.int .i64 (rd l2 x10_2), .int .i64 0, .int .i64 (wrap64 ((l0.length : Int) - 1))] rfl zG67 ?_; (with_reducible refine (spec_l01In.calls (rd l2 x10_2) 0 (wrap64 ((l0.length : Int) - 1)) true _ A23.out).mono ?_); rintro e w' ⟨rfl, ⟨nd, rfl⟩⟩; refine ⟨_, rfl, ?_⟩))
             go_roundg k2
             case measure => have := HJ3.out; have := HK2.out; omega
             case rel => exact ⟨(wrap64 (x10_2 + 1)), (x128001_2), (x128002_2), zG82, H', ⟨by have := HJ3.out; have := HK2.out; omega⟩, ⟨by (with_reducible repeat (first | apply zk | apply zl | apply zn)); exact HO_9.out⟩, ⟨by (with_reducible repeat (first | refine zh ?_ _ | refine zi ?_ | refine zg ?_ _)); exact BK127.out⟩, ⟨by (with_reducible repeat (first | refine zh ?_ _ | refine zi ?_ | refine zg ?_ _)); exact BK129.out⟩, ⟨by repeat (first | (with_reducible first | exact HB.out | apply zd | apply zb | apply zc | refine zf ?_ GE127.out | refine zf ?_ GE129.out) | exact HB.out)⟩⟩
            ·replace c24 := Bool.eq_false_iff.mpr c24
             subst c24
             have H1 : (some (([] : List Int), 0, 0, 3)) = some (r1, r2, r3, r4) := by rw [if_neg (show ¬ (false = true) by decide)] at H; exact H
             clear H
             have H := H1
             clear H1
             simp only [Option.some.injEq, Prod.mk.injEq] at H
             obtain ⟨rfl, rfl, rfl, rfl⟩ := H
             have p133 : 0 ≤ (x10_2 : Int) := zO
             have q133 : x10_2 < (l2.length : Int) := zO
             obtain ⟨ad133, e133, hx133_0⟩ := zal HR2.out x10_2 p133 q133
             cases e133
             replace hx133_0 := (HB.out.cell (ze w _ hx133_0)).trans hx133_0
             replace p133 := eq_true p133
             replace q133 := eq_true q133
             go_wp2_with (first | ((with_reducible refine gate_callee (f := 37) rfl ?_); refine goesL_ (some 54) rfl rfl Try.func37 zG83 rfl #[.int .i64 (rd l2 x10_2), .int .i64 0, .int .i64 (wrap64 ((l0.length : Int) - 1))] rfl zG67 ?_; (with_reducible refine (spec_l01In.calls (rd l2 x10_2) 0 (wrap64 ((l0.length : Int) - 1)) false _ A23.out).mono ?_); rintro e w' ⟨rfl, ⟨nd, rfl⟩⟩; refine ⟨_, rfl, ?_⟩; (try (rw [drewN_self wr]; generalize hq_ : World.drewN wr _ = wr; have n0_ : Aside0 (Kd.R Kd.bool 4 wr w.heap.size (fun _ => True) v131 y130) := ⟨by rw [← hq_]; exact (by (with_reducible repeat (first | apply zk | apply zl | apply zn)); exact HO_9.out)⟩; have n1_ : Aside0 (wr.heap[gb127]? = some (.cells #[.slice none 0 0, .int .i64 x128001_2, .int .i64 x128002_2] 28 (0, 0))) := ⟨by rw [← hq_]; exact zG73⟩; have n2_ : Aside0 (wr.heap[gb129]? = some (.cells #[.slice none 0 0, .int .i64 0, .int .i64 0] 28 (0, 0))) := ⟨by rw [← hq_]; exact (by (with_reducible repeat (first | refine zh ?_ _ | refine zi ?_ | refine zg ?_ _)); exact BK129.out)⟩; have n3_ : Aside0 (Below w.heap.size w wr) := ⟨by rw [← hq_]; exact zG65⟩; clear HO_9 BK127 BK129 HB hq_; have HO_9 := n0_; have BK127 := n1_; have BK129 := n2_; have HB := n3_; clear n0_ n1_ n2_ n3_)); (try have hcu25_0 : wr.cell? ⟨gb127, 0, none⟩ = some (.slice none 0 0) := (zm BK127.out 0).trans rfl); (try have hcu25_1 : wr.cell? ⟨gb127, 1, none⟩ = some (.int .i64 x128001_2) := (zm BK127.out 1).trans rfl); (try have hcu25_2 : wr.cell? ⟨gb127, 2, none⟩ = some (.int .i64 x128002_2) := (zm BK127.out 2).trans rfl); (try have hfcu25_0 := zj BK127.out 0); (try have hfcu25_1 := zj BK127.out 1); (try have hfcu25_2 := zj BK127.out 2); (try have hcu26_0 : wr.cell? ⟨gb129, 0, none⟩ = some (.slice none 0 0) := (zm BK129.out 0).trans rfl); (try have hcu26_1 : wr.cell? ⟨gb129, 1, none⟩ = some (.int .i64 0) := (zm BK129.out 1).trans rfl); (try have hcu26_2 : wr.cell? ⟨gb129, 2, none⟩ = some (.int .i64 0) := (zm BK129.out 2).trans rfl); (try have hfcu26_0 := zj BK129.out 0); (try have hfcu26_1 := zj BK129.out 1); (try have hfcu26_2 := zj BK129.out 2); have hnb27 := NB127_129.out; have hnc27 := NB129_127.out; have hcz28_0 : wr.cell? ⟨gb127, 0, none⟩ = some (.slice none 0 0) := (zm BK127.out 0).trans rfl; have hcz28_1 : wr.cell? ⟨gb127, 1, none⟩ = some (.int .i64 x128001_2) := (zm BK127.out 1).trans rfl; have hcz28_2 : wr.cell? ⟨gb127, 2, none⟩ = some (.int .i64 x128002_2) := (zm BK127.out 2).trans rfl; have hfz28_0 := zj BK127.out 0; have hfz28_1 := zj BK127.out 1; have hfz28_2 := zj BK127.out 2))
             refine bodyPost_ret (results_ct rfl _ _ gb127 28 #[.slice none 0 0, .int .i64 0, .int .i64 0] (0, 0) _ rfl (by (with_reducible repeat (first | refine zh ?_ _ | refine zi ?_ | refine zg ?_ _)); refine zy (cs := #[.slice none 0 0, .int .i64 0, .int .i64 x128002_2]) ?_ 2 _ rfl; (with_reducible repeat (first | refine zh ?_ _ | refine zi ?_ | refine zg ?_ _)); refine zy (cs := #[.slice none 0 0, .int .i64 x128001_2, .int .i64 x128002_2]) ?_ 1 _ rfl; (with_reducible repeat (first | refine zh ?_ _ | refine zi ?_ | refine zg ?_ _)); refine zy (cs := #[.slice none 0 0, .int .i64 x128001_2, .int .i64 x128002_2]) ?_ 0 _ rfl; (with_reducible repeat (first | refine zh ?_ _ | refine zi ?_ | refine zg ?_ _)); exact BK127.out) Try.underlying28 rfl zG83) rfl ?_
             exact ⟨_, by first | rfl | (simp [errW_none, errW_some] <;> rfl) | (simp [*, errW_none, errW_some] <;> rfl), by first | exact zaw _ _ _ _ _ | exact zaz _ _ _ _ _ | exact zba _ _ _ _ _ | exact zbb _ _ _ _ _ | exact zbc _ _ _ _ _, by repeat (first | (with_reducible first | exact HB.out | apply zd | apply zb | apply zc | refine zf ?_ GE127.out | refine zf ?_ GE129.out) | exact HB.out)⟩
           ·rw [if_neg c22] at H
            exact absurd H (by simp)
          ·rw [if_neg c21] at H
           have c21b0 : decide (x10_2 < (l2.length : Int)) = false := decide_eq_false c21
           clear c21
           have H' := za H
           clear H
           go_wp2
           go_loopg [11] k2 (fun kq v11 w' => ∃ (x9_3 : List Bool) (x11_3 : Int) (x128001_3 : Int) (x128002_3 : Int) (x130000_3 : List Int) (x130001_3 : Int) (x130002_3 : Int) (u130000 : Value), v11 = .int .i64 x11_3 ∧ Aside0 (spec_SourceOf.l1 kq l0 l1 l2 x9_3 x11_3 x130000_3 x130001_3 x130002_3 = some (r1, r2, r3, r4)) ∧ Aside0 (kq ≤ k2) ∧ Aside0 (Kd.R Kd.bool 4 w' w.heap.size (fun _ => True) v131 x9_3) ∧ Aside0 (Kd.R (Kd.int .i64) 3 w' w.heap.size (fun _ => True) u130000 x130000_3) ∧ Aside0 (w'.heap[gb127]? = some (.cells #[(.slice none 0 0), .int .i64 x128001_3, .int .i64 x128002_3] 28 (0, 0))) ∧ Aside0 (w'.heap[gb129]? = some (.cells #[u130000, .int .i64 x130001_3, .int .i64 x130002_3] 28 (0, 0))) ∧ Aside0 (Below w.heap.size w w'))
           case atStart => exact ⟨(y130), (0), (x128001_2), (x128002_2), (([] : List Int)), (0), (0), (.slice none 0 0), zG82, H', ⟨Nat.le_refl _⟩, ⟨by (with_reducible repeat (first | apply zk | apply zl | apply zn)); exact HO_9.out⟩, ⟨by first | exact zaw _ _ _ _ _ | exact zaz _ _ _ _ _ | exact zba _ _ _ _ _ | exact zbb _ _ _ _ _ | exact zbc _ _ _ _ _⟩, ⟨by (with_reducible repeat (first | refine zh ?_ _ | refine zi ?_ | refine zg ?_ _)); exact BK127.out⟩, ⟨by (with_reducible repeat (first | refine zh ?_ _ | refine zi ?_ | refine zg ?_ _)); exact BK129.out⟩, ⟨by repeat (first | (with_reducible first | exact HB.out | apply zd | apply zb | apply zc | refine zf ?_ GE127.out | refine zf ?_ GE129.out) | exact HB.out)⟩⟩
           case round =>
            clear H'
            try clear c1
            try clear p1
            try clear q1
            try clear hx1
            try clear c2
            try clear p2
            try clear c3
            try clear c6
            try clear c6b0
            try clear c6b1
            try clear p6
            try clear c7
            try clear c7b0
            try clear c7b1
            try clear c8
            try clear c11
            try clear c12
            try clear c12b0
            try clear c12b1
            try clear c12b2
            try clear c13
            try clear c13b0
            try clear c13b1
            try clear p13
            try clear q13
            try clear hx13
            try clear c14
            try clear c14b0
            try clear c14b1
            try clear c17
            try clear c21
            try clear c21b0
            try clear c22
            try clear c22b0
            try clear c24
            try clear c27
            try clear hcz18_0
            try clear hcz18_1
            try clear hcz18_2
            try clear hcz28_0
            try clear hcz28_1
            try clear hcz28_2
            try clear hcz9_0
            try clear hcz9_1
            try clear hcz9_2
            try clear hfz18_0
            try clear hfz18_1
            try clear hfz18_2
            try clear hfz28_0
            try clear hfz28_1
            try clear hfz28_2
            try clear hfz9_0
            try clear hfz9_1
            try clear hfz9_2
            try clear hx133_0
            try clear p133
            try clear p2
            try clear q133
            obtain ⟨x9_3, x11_3, x128001_3, x128002_3, x130000_3, x130001_3, x130002_3, u130000, rfl, HA, HK3, HO_9, HO_130000, BK127, BK129, HB⟩ := hrel
            cases gk with
            | zero => exact absurd HA.out (by simp [spec_SourceOf.l1])
            | succ k3 =>
             have H := HA.out
             clear HA
             simp only [spec_SourceOf.l1] at H
             by_cases c29 : x11_3 < (l2.length : Int)
             ·rw [if_pos c29] at H
              have c29b0 : decide (x11_3 < (l2.length : Int)) = true := decide_eq_true c29
              clear c29
              by_cases c30 : 0 ≤ x11_3
              ·rw [if_pos c30] at H
               have c30b0 : decide (0 ≤ x11_3) = true := decide_eq_true c30
               clear c30
               by_cases c31 : 0 ≤ (rd l2 x11_3)
               ·rw [if_pos c31] at H
                have c31b0 : decide (0 ≤ (rd l2 x11_3)) = true := decide_eq_true c31
                clear c31
                by_cases c32 : (rd l2 x11_3) < (l0.length : Int)
                ·rw [if_pos c32] at H
                 have c32b0 : decide ((rd l2 x11_3) < (l0.length : Int)) = true := decide_eq_true c32
                 clear c32
                 by_cases c33 : x11_3 < (l1.length : Int)
                 ·rw [if_pos c33] at H
                  have c33b0 : decide (x11_3 < (l1.length : Int)) = true := decide_eq_true c33
                  clear c33
                  replace H := Option.bind_eq_some_iff.mp H
                  obtain ⟨t138, A340, H⟩ := H
                  replace H : (if t138 = true then (if x130000_3.length < 17592186044416 then ((some (x130000_3 ++ [rd l2 x11_3] : List Int)).bind fun y140 => (if (rd l2 x11_3) < (x9_3.length : Int) then (if (rdOf false x9_3 (rd l2 x11_3) = true) then (spec_SourceOf.l1 k3 l0 l1 l2 x9_3 (wrap64 (x11_3 + 1)) y140 x130001_3 x130002_3) else (spec_SourceOf.l1 k3 l0 l1 l2 (x9_3.set ((rd l2 x11_3) : Int).toNat true) (wrap64 (x11_3 + 1)) y140 (wrap64 (x130001_3 + 1)) (wrap64 (x130002_3 + ((rd_T75 l0 (rd l2 x11_3)).f1))))) else (none))) else (none)) else (some (([] : List Int), 0, 0, 19))) = some (r1, r2, r3, r4) := H
                  have A34 := za A340
                  clear A340
                  by_cases c35 : t138 = true
                  ·subst c35
                   have H1 : (if x130000_3.length < 17592186044416 then ((some (x130000_3 ++ [rd l2 x11_3] : List Int)).bind fun y140 => (if (rd l2 x11_3) < (x9_3.length : Int) then (if (rdOf false x9_3 (rd l2 x11_3) = true) then (spec_SourceOf.l1 k3 l0 l1 l2 x9_3 (wrap64 (x11_3 + 1)) y140 x130001_3 x130002_3) else (spec_SourceOf.l1 k3 l0 l1 l2 (x9_3.set ((rd l2 x11_3) : Int).toNat true) (wrap64 (x11_3 + 1)) y140 (wrap64 (x130001_3 + 1)) (wrap64 (x130002_3 + ((rd_T75 l0 (rd l2 x11_3)).f1))))) else (none))) else (none)) = some (r1, r2, r3, r4) := by rw [if_pos rfl] at H; exact H
                   clear H
                   have H := H1
                   clear H1
                   by_cases c36 : x130000_3.length < 17592186044416
                   ·rw [if_pos c36] at H
                    have LMc36 := za c36
                    clear c36
                    obtain ⟨y140, hy140⟩ : ∃ y_ : List Int, y_ = (x130000_3 ++ [rd l2 x11_3]) := ⟨_, rfl⟩
                    replace H : (if (rd l2 x11_3) < (x9_3.length : Int) then (if (rdOf false x9_3 (rd l2 x11_3) = true) then (spec_SourceOf.l1 k3 l0 l1 l2 x9_3 (wrap64 (x11_3 + 1)) y140 x130001_3 x130002_3) else (spec_SourceOf.l1 k3 l0 l1 l2 (x9_3.set ((rd l2 x11_3) : Int).toNat true) (wrap64 (x11_3 + 1)) y140 (wrap64 (x130001_3 + 1)) (wrap64 (x130002_3 + ((rd_T75 l0 (rd l2 x11_3)).f1))))) else (none)) = some (r1, r2, r3, r4) := by first | (rw [hy140]; with_reducible exact H) | (have H2_ := (Option.bind_some _ _).symm.trans H; rw [hy140]; with_reducible exact H2_) | (have H2_ := (Option.bind_some _ _).symm.trans H; with_reducible exact H2_) | with_reducible exact H | (rw [hy140]; exact H) | exact H
                    have Ny140 := za hy140
                    clear hy140
                    by_cases c37 : (rd l2 x11_3) < (x9_3.length : Int)
                    ·rw [if_pos c37] at H
                     have c37b0 : decide ((rd l2 x11_3) < (x9_3.length : Int)) = true := decide_eq_true c37
                     clear c37
                     obtain ⟨bq38, hbq38⟩ : ∃ b_ : Bool, b_ = (rdOf false x9_3 (rd l2 x11_3)) := ⟨_, rfl⟩
                     replace H : (if (bq38 = true) then (spec_SourceOf.l1 k3 l0 l1 l2 x9_3 (wrap64 (x11_3 + 1)) y140 x130001_3 x130002_3) else (spec_SourceOf.l1 k3 l0 l1 l2 (x9_3.set ((rd l2 x11_3) : Int).toNat true) (wrap64 (x11_3 + 1)) y140 (wrap64 (x130001_3 + 1)) (wrap64 (x130002_3 + ((rd_T75 l0 (rd l2 x11_3)).f1))))) = some (r1, r2, r3, r4) := by rw [← hbq38] at H; exact H
                     have Nbq38 := za hbq38
                     clear hbq38
                     by_cases c39 : (bq38 = true)
                     ·subst c39
                      have H1 : (spec_SourceOf.l1 k3 l0 l1 l2 x9_3 (wrap64 (x11_3 + 1)) y140 x130001_3 x130002_3) = some (r1, r2, r3, r4) := by rw [if_pos rfl] at H; exact H
                      clear H
                      have H := H1
                      clear H1
                      have H' := za H
                      clear H
                      try go_wp2
                      have n0_ := za (zn HO_9.out)
                      have n1_ := za (zn HO_130000.out)
                      have n2_ := za (zi BK127.out)
                      have n3_ := za (zi BK129.out)
                      have n4_ := za (zc HB.out)
                      clear HO_9
                      clear HO_130000
                      clear BK127
                      clear BK129
                      clear HB
                      have HO_9 := n0_
                      have HO_130000 := n1_
                      have BK127 := n2_
                      have BK129 := n3_
                      have HB := n4_
                      clear n0_ n1_ n2_ n3_ n4_
                      have p135 : 0 ≤ (x11_3 : Int) := zO
                      have q135 : x11_3 < (l2.length : Int) := zO
                      obtain ⟨ad135, e135, hx135_0⟩ := zal HR2.out x11_3 p135 q135
                      have hw135_0 := hx135_0
                      cases e135
                      replace hx135_0 := (HB.out.cell (ze w _ hx135_0)).trans hx135_0
                      replace p135 := eq_true p135
                      replace q135 := eq_true q135
                      have p136 : 0 ≤ ((rd l2 x11_3) : Int) := zO
                      have q136 : (rd l2 x11_3) < (l0.length : Int) := zO
                      obtain ⟨ad136, A136_2, c136_2, e136, hx136_0, hx136_1, hx136_2, hl136_2, hi136_2⟩ := at_T75 HR0.out (rd l2 x11_3) p136 q136
                      have hw136_2 := hx136_2
                      have hw136_1 := hx136_1
                      have hw136_0 := hx136_0
                      cases e136
                      replace hx136_0 := (HB.out.cell (ze w _ hx136_0)).trans hx136_0
                      replace hx136_1 := (HB.out.cell (ze w _ hx136_1)).trans hx136_1
                      replace hx136_2 := (HB.out.cell (ze w _ hx136_2)).trans hx136_2
                      have HR136_2 := za hi136_2
                      have HC136_2 := za hl136_2
                      clear hi136_2 hl136_2
                      replace p136 := eq_true p136
                      replace q136 := eq_true q136
                      have p137 : 0 ≤ (x11_3 : Int) := zO
                      have q137 : x11_3 < (l1.length : Int) := zO
                      obtain ⟨ad137, e137, hx137_0, hx137_1⟩ := at_T76 HR1.out x11_3 p137 q137
                      have hw137_1 := hx137_1
                      have hw137_0 := hx137_0
                      cases e137
                      replace hx137_0 := (HB.out.cell (ze w _ hx137_0)).trans hx137_0
                      replace hx137_1 := (HB.out.cell (ze w _ hx137_1)).trans hx137_1
                      replace p137 := eq_true p137
                      replace q137 := eq_true q137
                      refine start_ (n := 13) (S := fun w' => w'.cell? (ad135.add (x11_3).toNat) = some (.int .i64 (rd l2 x11_3)) ∧ w'.cell? (ad136.add (((rd l2 x11_3)).toNat * 3)) = some (.string ((rd_T75 l0 (rd l2 x11_3)).f0)) ∧ w'.cell? ⟨(ad136.add (((rd l2 x11_3)).toNat * 3)).block, (ad136.add (((rd l2 x11_3)).toNat * 3)).off + 1, none⟩ = some (.int .i64 ((rd_T75 l0 (rd l2 x11_3)).f1)) ∧ w'.cell? ⟨(ad136.add (((rd l2 x11_3)).toNat * 3)).block, (ad136.add (((rd l2 x11_3)).toNat * 3)).off + 2, none⟩ = some (.slice A136_2 ((rd_T75 l0 (rd l2 x11_3)).f2).length c136_2) ∧ w'.cell? (ad137.add ((x11_3).toNat * 2)) = some (.string ((rd_T76 l1 x11_3).f0)) ∧ w'.cell? ⟨(ad137.add ((x11_3).toNat * 2)).block, (ad137.add ((x11_3).toNat * 2)).off + 1, none⟩ = some (.int .i64 ((rd_T76 l1 x11_3).f1))) (ds := []) b5A0 zG83 rfl rfl ⟨((HB.out.cell (ze w _ hw135_0)).trans hw135_0), ((HB.out.cell (ze w _ hw136_0)).trans hw136_0), ((HB.out.cell (ze w _ hw136_1)).trans hw136_1), ((HB.out.cell (ze w _ hw136_2)).trans hw136_2), ((HB.out.cell (ze w _ hw137_0)).trans hw137_0), ((HB.out.cell (ze w _ hw137_1)).trans hw137_1)⟩ (fun hHeld => ?_); refine with_tabW spec_SourceOf.tab17 spec_SourceOf.bits17 (fun HT_ HW_ => ?_)
                      generalize wr.drew = w40 at HO_9 HO_130000 BK127 BK129 HB HR136_2 hx135_0 hx136_0 hx136_1 hx136_2 hx137_0 hx137_1 hHeld ⊢
                      refine pure_ (i := 0) (N := some 63) (v := ?_) (a' := ?_) b5A1 rfl rfl (any_of HT_.out zG83) (fun _ _ _ h => h) (Or.inl ⟨by rfl, ?_⟩) ?_ ?_
                      rotate_left
                      ·intro w'
                       go_simp
                       with_reducible rfl
                      rotate_left
                      ·simp only [Act.put, List.setIfInBounds_toArray, List.set_cons_zero, List.set_cons_succ, i64_w, i32_w]
                       rfl
                      refine pure_ (i := 1) (N := some 64) (v := ?_) (a' := ?_) b5A6 rfl rfl (any_of HT_.out zG83) (fun _ _ _ h => h) (Or.inl ⟨by rfl, ?_⟩) ?_ ?_
                      rotate_left
                      ·intro w'
                       go_simp
                       with_reducible rfl
                      rotate_left
                      ·simp only [Act.put, List.setIfInBounds_toArray, List.set_cons_zero, List.set_cons_succ, i64_w, i32_w]
                       rfl
                      refine pure_ (i := 2) (N := some 65) (v := ?_) (a' := ?_) b5A7 rfl rfl (any_of HT_.out zG83) (fun _ _ _ h => h) (Or.inl ⟨by rfl, ?_⟩) ?_ ?_
                      rotate_left
                      ·intro w'
                       go_simp
                       with_reducible rfl
                      rotate_left
                      ·simp only [Act.put, List.setIfInBounds_toArray, List.set_cons_zero, List.set_cons_succ, i64_w, i32_w]
                       rfl
                      refine pure_ (i := 3) (N := some 66) (v := ?_) (a' := ?_) b5A8 rfl rfl (any_of HT_.out zG83) (fun _ _ _ h => h) (Or.inl ⟨by rfl, ?_⟩) ?_ ?_
                      rotate_left
                      ·intro w'
                       go_simp
                       with_reducible rfl
                      rotate_left
                      ·simp only [Act.put, List.setIfInBounds_toArray, List.set_cons_zero, List.set_cons_succ, i64_w, i32_w]
                       rfl
                      refine pure_ (i := 7) (N := some 70) (v := ?_) (a' := ?_) b5A9 rfl rfl (any_of HT_.out zG83) (fun _ _ _ h => h) (Or.inl ⟨by rfl, ?_⟩) ?_ ?_
                      rotate_left
                      ·intro w'
                       go_simp
                       with_reducible rfl
                      rotate_left
                      ·simp only [Act.put, List.setIfInBounds_toArray, List.set_cons_zero, List.set_cons_succ, i64_w, i32_w]
                       rfl
                      refine pure_ (i := 8) (N := some 71) (v := ?_) (a' := ?_) b5A10 rfl rfl (any_of HT_.out zG83) (fun _ _ _ h => h) (Or.inl ⟨by rfl, ?_⟩) ?_ ?_
                      rotate_left
                      ·intro w'
                       go_simp
                       with_reducible rfl
                      rotate_left
                      ·simp only [Act.put, List.setIfInBounds_toArray, List.set_cons_zero, List.set_cons_succ, i64_w, i32_w]
                       rfl
                      refine pure_ (i := 9) (N := some 72) (v := ?_) (a' := ?_) b5A11 rfl rfl (any_of HT_.out zG83) (fun _ _ _ h => h) (Or.inl ⟨by rfl, ?_⟩) ?_ ?_
                      rotate_left
                      ·intro w'
                       go_simp
                       with_reducible rfl
                      rotate_left
                      ·simp only [Act.put, List.setIfInBounds_toArray, List.set_cons_zero, List.set_cons_succ, i64_w, i32_w]
                       rfl
                      refine take_ (i := 4) (N := some 67) (v := ?_) (a' := ?_) b5A12 rfl rfl (take_ofW HT_.out HW_.out zG83) (fun _ _ _ h => h) (Or.inl ⟨by rfl, ?_⟩) hHeld ?_ ?_
                      rotate_left
                      ·rintro w' ⟨s0, s1, s2, s3, s4, s5⟩
                       go_simp
                       with_reducible rfl
                      rotate_left
                      ·simp only [Act.put, List.setIfInBounds_toArray, List.set_cons_zero, List.set_cons_succ, i64_w, i32_w]
                       rfl
                      refine pure_ (i := 5) (N := some 68) (v := ?_) (a' := ?_) b5A13 rfl rfl (any_of HT_.out zG83) (fun _ _ _ h => h) (Or.inl ⟨by rfl, ?_⟩) ?_ ?_
                      rotate_left
                      ·intro w'
                       go_simp
                       with_reducible rfl
                      rotate_left
                      ·simp only [Act.put, List.setIfInBounds_toArray, List.set_cons_zero, List.set_cons_succ, i64_w, i32_w]
                       rfl
                      refine take_ (i := 6) (N := some 69) (v := ?_) (a' := ?_) b5A2 rfl rfl (take_ofW HT_.out HW_.out zG83) (fun _ _ _ h => h) (Or.inl ⟨by rfl, ?_⟩) hHeld ?_ ?_
                      rotate_left
                      ·rintro w' ⟨s0, s1, s2, s3, s4, s5⟩
                       go_simp
                       with_reducible rfl
                      rotate_left
                      ·simp only [Act.put, List.setIfInBounds_toArray, List.set_cons_zero, List.set_cons_succ, i64_w, i32_w]
                       rfl
                      refine take_ (i := 10) (N := some 73) (v := ?_) (a' := ?_) b5A3 rfl rfl (take_ofW HT_.out HW_.out zG83) (fun _ _ _ h => h) (Or.inl ⟨by rfl, ?_⟩) hHeld ?_ ?_
                      rotate_left
                      ·rintro w' ⟨s0, s1, s2, s3, s4, s5⟩
                       go_simp
                       with_reducible rfl
                      rotate_left
                      ·simp only [Act.put, List.setIfInBounds_toArray, List.set_cons_zero, List.set_cons_succ, i64_w, i32_w]
                       rfl
                      refine one_ (i := 11) (N := some 74) b5A4 rfl rfl (one_of HT_.out zG83) (by decide) (fun K hK => ?_)
                      refine goes_ Try.func38 zG83 rfl #[.agg #[.string ((rd_T75 l0 (rd l2 x11_3)).f0), .int .i64 ((rd_T75 l0 (rd l2 x11_3)).f1), .slice A136_2 ((rd_T75 l0 (rd l2 x11_3)).f2).length c136_2], .agg #[.string ((rd_T76 l1 x11_3).f0), .int .i64 ((rd_T76 l1 x11_3).f1)]] (by rfl) rfl rfl zG67 ?_
                      with_reducible refine (spec_l23Has.calls k3 ((rd_T75 l0 (rd l2 x11_3)).f0) ((rd_T75 l0 (rd l2 x11_3)).f1) _ _ ((rd_T75 l0 (rd l2 x11_3)).f2) ((rd_T76 l1 x11_3).f0) ((rd_T76 l1 x11_3).f1) true _ ?side1 ?side2 A34.out).mono ?_
                      (case side1 => repeat (first | exact (zw HR136_2.out HB.out) | (with_reducible refine zs ?_ _) | (with_reducible refine zt ?_ _) | (with_reducible refine zu ?_)))
                      (case side2 => exact HC136_2.out)
                      rintro e w41 ⟨rfl, hb⟩
                      refine ⟨_, rfl, ?_⟩
                      have n0_ := za (zp (by (with_reducible repeat (first | apply zk | apply zl | apply zn)); exact HO_9.out) hb)
                      have n1_ := za (zp (by (with_reducible repeat (first | apply zk | apply zl | apply zn)); exact HO_130000.out) hb)
                      have n2_ := za (zr (g := gb127) (o := .cells #[.slice none 0 0, .int .i64 x128001_3, .int .i64 x128002_3] 28 (0, 0)) zG73 hb)
                      have n3_ := za (zr (g := gb129) (o := .cells #[u130000, .int .i64 x130001_3, .int .i64 x130002_3] 28 (0, 0)) (by (with_reducible repeat (first | refine zh ?_ _ | refine zi ?_ | refine zg ?_ _)); exact BK129.out) hb)
                      have n4_ := za (zq zG65 hb)
                      clear HO_9
                      clear HO_130000
                      clear BK127
                      clear BK129
                      clear HB
                      have HO_9 := n0_
                      have HO_130000 := n1_
                      have BK127 := n2_
                      have BK129 := n3_
                      have HB := n4_
                      clear n0_ n1_ n2_ n3_ n4_
                      (try clear hb)
                      (try clear hb2)
                      (try clear hk)
                      (try clear hi)
                      refine hK.out _ _ ⟨((HB.out.cell (ze w _ hw135_0)).trans hw135_0), ((HB.out.cell (ze w _ hw136_0)).trans hw136_0), ((HB.out.cell (ze w _ hw136_1)).trans hw136_1), ((HB.out.cell (ze w _ hw136_2)).trans hw136_2), ((HB.out.cell (ze w _ hw137_0)).trans hw137_0), ((HB.out.cell (ze w _ hw137_1)).trans hw137_1)⟩ (fun hHeld => ?_)
                      clear hK K
                      refine norm_ (a' := ?_) ?_ ?_
                      rotate_left
                      ·show Act.put _ (some 74) _ = _
                       simp only [Act.put, List.setIfInBounds_toArray, List.set_cons_zero, List.set_cons_succ, i64_w, i32_w]
                       rfl
                      refine pure_ (i := 12) (N := some 75) (v := ?_) (a' := ?_) b5A5 rfl rfl (any_of HT_.out zG83) (fun _ _ _ h => h) (Or.inl ⟨by rfl, ?_⟩) ?_ ?_
                      rotate_left
                      ·intro w'
                       go_simp
                       with_reducible rfl
                      rotate_left
                      ·simp only [Act.put, List.setIfInBounds_toArray, List.set_cons_zero, List.set_cons_succ, i64_w, i32_w]
                       rfl
                      refine done_ (done_of HT_.out zG83) ?_
                      try go_wp2
                      have n0_ := za (zn HO_9.out)
                      have n1_ := za (zn HO_130000.out)
                      have n2_ := za (zi BK127.out)
                      have n3_ := za (zi BK129.out)
                      have n4_ := za (zc HB.out)
                      clear HO_9
                      clear HO_130000
                      clear BK127
                      clear BK129
                      clear HB
                      have HO_9 := n0_
                      have HO_130000 := n1_
                      have BK127 := n2_
                      have BK129 := n3_
                      have HB := n4_
                      clear n0_ n1_ n2_ n3_ n4_
                      have p139 : 0 ≤ (x11_3 : Int) := zO
                      have q139 : x11_3 < (l2.length : Int) := zO
                      obtain ⟨ad139, e139, hx139_0⟩ := zal HR2.out x11_3 p139 q139
                      have hw139_0 := hx139_0
                      obtain rfl : ad135 = ad139 := (by injection e139)
                      replace hx139_0 := (HB.out.cell (ze w _ hx139_0)).trans hx139_0
                      replace p139 := eq_true p139
                      replace q139 := eq_true q139
                      refine start_ (n := 10) (S := fun w' => w'.cell? ⟨gb129, 0, none⟩ = some (u130000) ∧ w'.cell? ⟨gb129, 1, none⟩ = some (.int .i64 x130001_3) ∧ w'.cell? ⟨gb129, 2, none⟩ = some (.int .i64 x130002_3) ∧ w'.cell? (ad135.add (x11_3).toNat) = some (.int .i64 (rd l2 x11_3))) (ds := [9]) b5A14 zG83 rfl rfl ⟨(zm BK129.out 0).trans rfl, (zm BK129.out 1).trans rfl, (zm BK129.out 2).trans rfl, ((HB.out.cell (ze w _ hw139_0)).trans hw139_0)⟩ (fun hHeld => ?_); refine with_tabW spec_SourceOf.tab19 spec_SourceOf.bits19 (fun HT_ HW_ => ?_)
                      generalize w41.drew = w42 at HO_9 HO_130000 BK127 BK129 HB hx139_0 hHeld ⊢
                      refine pure_ (i := 0) (N := some 77) (v := ?_) (a' := ?_) b5A15 rfl rfl (any_of HT_.out zG83) (fun _ _ _ h => h) (Or.inl ⟨by rfl, ?_⟩) ?_ ?_
                      rotate_left
                      ·intro w'
                       go_simp
                       with_reducible rfl
                      rotate_left
                      ·simp only [Act.put, List.setIfInBounds_toArray, List.set_cons_zero, List.set_cons_succ, i64_w, i32_w]
                       rfl
                      refine pure_ (i := 2) (N := some 79) (v := ?_) (a' := ?_) b5A16 rfl rfl (any_of HT_.out zG83) (fun _ _ _ h => h) (Or.inl ⟨by rfl, ?_⟩) ?_ ?_
                      rotate_left
                      ·intro w'
                       go_simp
                       with_reducible rfl
                      rotate_left
                      ·simp only [Act.put, List.setIfInBounds_toArray, List.set_cons_zero, List.set_cons_succ, i64_w, i32_w]
                       rfl
                      refine pure_ (i := 3) (N := some 80) (v := ?_) (a' := ?_) b5A17 rfl rfl (any_of HT_.out zG83) (fun _ _ _ h => h) (Or.inl ⟨by rfl, ?_⟩) ?_ ?_
                      rotate_left
                      ·intro w'
                       go_simp
                       with_reducible rfl
                      rotate_left
                      ·simp only [Act.put, List.setIfInBounds_toArray, List.set_cons_zero, List.set_cons_succ, i64_w, i32_w]
                       rfl
                      refine pure_ (i := 4) (N := some 81) (v := ?_) (a' := ?_) b5A18 rfl rfl (any_of HT_.out zG83) (fun _ _ _ h => h) (Or.inl ⟨by rfl, ?_⟩) ?_ ?_
                      rotate_left
                      ·intro w'
                       go_simp
                       with_reducible rfl
                      rotate_left
                      ·simp only [Act.put, List.setIfInBounds_toArray, List.set_cons_zero, List.set_cons_succ, i64_w, i32_w]
                       rfl
                      refine take_ (i := 1) (N := some 78) (v := ?_) (a' := ?_) b5A19 rfl rfl (take_ofW HT_.out HW_.out zG83) (fun _ _ _ h => h) (Or.inl ⟨by rfl, ?_⟩) hHeld ?_ ?_
                      rotate_left
                      ·rintro w' ⟨s0, s1, s2, s3⟩
                       go_simp
                       with_reducible rfl
                      rotate_left
                      ·simp only [Act.put, List.setIfInBounds_toArray, List.set_cons_zero, List.set_cons_succ, i64_w, i32_w]
                       rfl
                      refine take_ (i := 5) (N := some 82) (v := ?_) (a' := ?_) b5A20 rfl rfl (take_ofW HT_.out HW_.out zG83) (fun _ _ _ h => h) (Or.inl ⟨by rfl, ?_⟩) hHeld ?_ ?_
                      rotate_left
                      ·rintro w' ⟨s0, s1, s2, s3⟩
                       go_simp
                       with_reducible rfl
                      rotate_left
                      ·simp only [Act.put, List.setIfInBounds_toArray, List.set_cons_zero, List.set_cons_succ, i64_w, i32_w]
                       rfl
                      refine one_ (i := 6) (N := some 83) b5A21 rfl rfl (one_of HT_.out zG83) (by decide) (fun K hK => ?_)
                      refine value_ (w1 := ?_) (v := ?_) (by rfl) rfl ?_ ?_
                      rotate_left 2
                      ·go_simp
                       constructor
                       ·rfl
                       ·rfl
                      refine hK.out _ _ ⟨(zm (zg BK129.out _) 0).trans rfl, (zm (zg BK129.out _) 1).trans rfl, (zm (zg BK129.out _) 2).trans rfl, (World.cell?_alloc_lt _ _ _ (ze _ _ (((HB.out.cell (ze w _ hw139_0)).trans hw139_0)))).trans (((HB.out.cell (ze w _ hw139_0)).trans hw139_0))⟩ (fun hHeld => ?_)
                      clear hK K
                      refine norm_ (a' := ?_) ?_ ?_
                      rotate_left
                      ·show Act.put _ (some 83) _ = _
                       simp only [Act.put, List.setIfInBounds_toArray, List.set_cons_zero, List.set_cons_succ, i64_w, i32_w]
                       rfl
                      refine one_ (i := 7) (N := some 84) b5A22 rfl rfl (one_of HT_.out zG83) (by decide) (fun K hK => ?_)
                      refine Kd.R_append_step (Kd.int .i64) (w0 := w) w.heap.size (by rfl) (.tmp 78) (.tmp 83) 24 3 (.int .i64 0) 8 rfl Try.underlying24 info3 rfl (by decide) (by omega) u130000 x130000_3 (rd l2 x11_3) [.int .i64 (rd l2 x11_3)] (fun _ => True) (fun _ => False) rfl rfl ?aP (fun _ hk => hk.elim) ?aF ?aO ?aB ?aS ?aL ?_
                      (case aP => exact rfl)
                      (case aB => exact zG65)
                      (case aF => exact (fun _ _ => trivial))
                      (case aO => exact (by (with_reducible repeat (first | apply zk | apply zl | apply zn)); exact HO_130000.out))
                      (case aS => exact (zo zG65))
                      (case aL => have := LMc36.out; omega)
                      intro v141 w43 ho hb hg hat
                      rw [← Ny140.out] at ho
                      have n0_ := za (Kd.R_over' (by (with_reducible repeat (first | apply zk | apply zl | apply zn)); exact HO_9.out) (zar (by (with_reducible repeat (first | apply zk | apply zl | apply zn)); exact HO_130000.out)) (by decide) hg)
                      have n1_ := za (zbg (g := gb127) (o := .cells #[.slice none 0 0, .int .i64 x128001_3, .int .i64 x128002_3] 28 (0, 0)) zG73 hg (zas HO_130000.out BK127.out (by decide)))
                      have n2_ := za (zbg (g := gb129) (o := .cells #[u130000, .int .i64 x130001_3, .int .i64 x130002_3] 28 (0, 0)) (by (with_reducible repeat (first | refine zh ?_ _ | refine zi ?_ | refine zg ?_ _)); exact BK129.out) hg (zas HO_130000.out BK129.out (by decide)))
                      have n3_ := za (hb)
                      have n4_ := za (ho)
                      clear HO_9
                      clear BK127
                      clear BK129
                      clear HB
                      clear HO_130000
                      have HO_9 := n0_
                      have BK127 := n1_
                      have BK129 := n2_
                      have HB := n3_
                      have HO142 := n4_
                      clear n0_ n1_ n2_ n3_ n4_
                      clear ho hb hg hat
                      obtain ⟨Ao44, co44, eo44⟩ := zaf HO142.out
                      (first | subst eo44 | (injection eo44 with f1_ f2_ f3_; have f4_ := f1_.symm; have f5_ := f3_.symm; clear f1_ f2_ f3_; subst f4_; subst f5_))
                      refine hK.out _ _ ⟨(zm BK129.out 0).trans rfl, (zm BK129.out 1).trans rfl, (zm BK129.out 2).trans rfl, ((HB.out.cell (ze w _ hw139_0)).trans hw139_0)⟩ (fun hHeld => ?_)
                      clear hK K
                      refine norm_ (a' := ?_) ?_ ?_
                      rotate_left
                      ·show Act.put _ (some 84) _ = _
                       simp only [Act.put, List.setIfInBounds_toArray, List.set_cons_zero, List.set_cons_succ, i64_w, i32_w]
                       rfl
                      refine pure_ (i := 8) (N := some 85) (v := ?_) (a' := ?_) b5A23 rfl rfl (any_of HT_.out zG83) (fun _ _ _ h => h) (Or.inl ⟨by rfl, ?_⟩) ?_ ?_
                      rotate_left
                      ·intro w'
                       go_simp
                       with_reducible rfl
                      rotate_left
                      ·simp only [Act.put, List.setIfInBounds_toArray, List.set_cons_zero, List.set_cons_succ, i64_w, i32_w]
                       rfl
                      refine last_ (i := 9) (N := none) b5A24 rfl rfl (one_of HT_.out zG83) (by decide) (fun K hK => ?_)
                      have hs45 : w43.cell? ⟨gb129, 0, none⟩ = some (u130000) := (zm BK129.out 0).trans rfl
                      have hfs45 := zj BK129.out 0
                      have hns45_0 := NB127_129.out
                      have hms45_0 := NB129_127.out
                      refine skip_ (w1 := ?_) (by rfl) rfl ?_ ?_
                      rotate_left
                      ·go_simp
                       rfl
                      refine hK.out _ _ ?_
                      clear hK K
                      refine done_ (done_of HT_.out zG83) ?_
                      have p143 : 0 ≤ (x11_3 : Int) := zO
                      have q143 : x11_3 < (l2.length : Int) := zO
                      obtain ⟨ad143, e143, hx143_0⟩ := zal HR2.out x11_3 p143 q143
                      obtain rfl : ad135 = ad143 := (by injection e143)
                      have hn143_0 : ad135.block ≠ gb129 := Nat.ne_of_lt (Nat.lt_of_lt_of_le (by have := ze _ _ hx143_0; first | rwa [add_block] at this | exact this) GW129.out)
                      replace hx143_0 := (HB.out.cell (ze w _ hx143_0)).trans hx143_0
                      replace hx143_0 := (cell_far (p := ⟨gb129, 0, none⟩) (by first | (rw [add_block]; exact hn143_0) | (show (Addr.add _ _).block ≠ _; rw [add_block]; exact hn143_0) | exact hn143_0) (.slice Ao44 y140.length co44)).trans hx143_0
                      clear hn143_0
                      replace p143 := eq_true p143
                      replace q143 := eq_true q143
                      obtain ⟨Ao46, co46, eo46⟩ := zaf HO_9.out
                      subst eo46
                      have p144 : 0 ≤ ((rd l2 x11_3) : Int) := zO
                      have q144 : (rd l2 x11_3) < (x9_3.length : Int) := zO
                      obtain ⟨ad144, e144, hx144_0⟩ := Kd.at_bool (Kd.R_reads' HO_9.out).2.2 (rd l2 x11_3) p144 q144
                      (try rw [← Nbq38.out] at hx144_0)
                      cases e144
                      have hn144_0 : ad144.block ≠ gb129 := Kd.own_blk (zas HO_9.out BK129.out (by decide))
                      replace hx144_0 := (cell_far (p := ⟨gb129, 0, none⟩) (by first | (rw [add_block]; exact hn144_0) | (show (Addr.add _ _).block ≠ _; rw [add_block]; exact hn144_0) | exact hn144_0) (.slice Ao44 y140.length co44)).trans hx144_0
                      clear hn144_0
                      replace p144 := eq_true p144
                      replace q144 := eq_true q144
                      try go_wp2
                      go_roundg k3
                      case measure => have := HJ3.out; have := HK2.out; have := HK3.out; omega
                      case rel => exact ⟨(x9_3), (wrap64 (x11_3 + 1)), (x128001_3), (x128002_3), (y140), (x130001_3), (x130002_3), (.slice Ao44 y140.length co44), zG82, H', ⟨by have := HJ3.out; have := HK2.out; have := HK3.out; omega⟩, ⟨by (with_reducible repeat (first | apply zk | apply zl | apply zn)); exact zx (zv (p := ⟨gb129, 0, none⟩) (zac HO_9.out BK129.out (by decide)) (fun _ hk => hk.2) (.slice Ao44 y140.length co44)) (fun _ hk => trivial)⟩, ⟨by (with_reducible repeat (first | apply zk | apply zl | apply zn)); exact zx (zv (p := ⟨gb129, 0, none⟩) (zac HO142.out BK129.out (by decide)) (fun _ hk => hk.2) (.slice Ao44 y140.length co44)) (fun _ hk => trivial)⟩, ⟨by (with_reducible repeat (first | refine zh ?_ _ | refine zi ?_ | refine zg ?_ _)); refine zag ?_ NB127_129.out _; (with_reducible repeat (first | refine zh ?_ _ | refine zi ?_ | refine zg ?_ _)); exact BK127.out⟩, ⟨by (with_reducible repeat (first | refine zh ?_ _ | refine zi ?_ | refine zg ?_ _)); refine zy (cs := #[u130000, .int .i64 x130001_3, .int .i64 x130002_3]) ?_ 0 _ rfl; (with_reducible repeat (first | refine zh ?_ _ | refine zi ?_ | refine zg ?_ _)); exact BK129.out⟩, ⟨by repeat (first | (with_reducible first | exact HB.out | apply zd | apply zb | apply zc | refine zf ?_ GE127.out | refine zf ?_ GE129.out) | exact HB.out)⟩⟩
                     ·replace c39 := Bool.eq_false_iff.mpr c39
                      subst c39
                      have H1 : (spec_SourceOf.l1 k3 l0 l1 l2 (x9_3.set ((rd l2 x11_3) : Int).toNat true) (wrap64 (x11_3 + 1)) y140 (wrap64 (x130001_3 + 1)) (wrap64 (x130002_3 + ((rd_T75 l0 (rd l2 x11_3)).f1)))) = some (r1, r2, r3, r4) := by rw [if_neg (show ¬ (false = true) by decide)] at H; exact H
                      clear H
                      have H := H1
                      clear H1
                      obtain ⟨y146, hy146⟩ : ∃ y_ : List Bool, y_ = (x9_3.set ((rd l2 x11_3) : Int).toNat true) := ⟨_, rfl⟩
                      replace H : (spec_SourceOf.l1 k3 l0 l1 l2 y146 (wrap64 (x11_3 + 1)) y140 (wrap64 (x130001_3 + 1)) (wrap64 (x130002_3 + ((rd_T75 l0 (rd l2 x11_3)).f1)))) = some (r1, r2, r3, r4) := by first | (rw [hy146]; with_reducible exact H) | (have H2_ := (Option.bind_some _ _).symm.trans H; rw [hy146]; with_reducible exact H2_) | (have H2_ := (Option.bind_some _ _).symm.trans H; with_reducible exact H2_) | with_reducible exact H | (rw [hy146]; exact H) | exact H
                      have Ny146 := za hy146
                      clear hy146
                      have H' := za H
                      clear H
                      try go_wp2
                      have n0_ := za (zn HO_9.out)
                      have n1_ := za (zn HO_130000.out)
                      have n2_ := za (zi BK127.out)
                      have n3_ := za (zi BK129.out)
                      have n4_ := za (zc HB.out)
                      clear HO_9
                      clear HO_130000
                      clear BK127
                      clear BK129
                      clear HB
                      have HO_9 := n0_
                      have HO_130000 := n1_
                      have BK127 := n2_
                      have BK129 := n3_
                      have HB := n4_
                      clear n0_ n1_ n2_ n3_ n4_
                      have p135 : 0 ≤ (x11_3 : Int) := zO
                      have q135 : x11_3 < (l2.length : Int) := zO
                      obtain ⟨ad135, e135, hx135_0⟩ := zal HR2.out x11_3 p135 q135
                      have hw135_0 := hx135_0
                      cases e135
                      replace hx135_0 := (HB.out.cell (ze w _ hx135_0)).trans hx135_0
                      replace p135 := eq_true p135
                      replace q135 := eq_true q135
                      have p136 : 0 ≤ ((rd l2 x11_3) : Int) := zO
                      have q136 : (rd l2 x11_3) < (l0.length : Int) := zO
                      obtain ⟨ad136, A136_2, c136_2, e136, hx136_0, hx136_1, hx136_2, hl136_2, hi136_2⟩ := at_T75 HR0.out (rd l2 x11_3) p136 q136
                      have hw136_2 := hx136_2
                      have hw136_1 := hx136_1
                      have hw136_0 := hx136_0
                      cases e136
                      replace hx136_0 := (HB.out.cell (ze w _ hx136_0)).trans hx136_0
                      replace hx136_1 := (HB.out.cell (ze w _ hx136_1)).trans hx136_1
                      replace hx136_2 := (HB.out.cell (ze w _ hx136_2)).trans hx136_2
                      have HR136_2 := za hi136_2
                      have HC136_2 := za hl136_2
                      clear hi136_2 hl136_2
                      replace p136 := eq_true p136
                      replace q136 := eq_true q136
                      have p137 : 0 ≤ (x11_3 : Int) := zO
                      have q137 : x11_3 < (l1.length : Int) := zO
                      obtain ⟨ad137, e137, hx137_0, hx137_1⟩ := at_T76 HR1.out x11_3 p137 q137
                      have hw137_1 := hx137_1
                      have hw137_0 := hx137_0
                      cases e137
                      replace hx137_0 := (HB.out.cell (ze w _ hx137_0)).trans hx137_0
                      replace hx137_1 := (HB.out.cell (ze w _ hx137_1)).trans hx137_1
                      replace p137 := eq_true p137
                      replace q137 := eq_true q137
                      refine start_ (n := 13) (S := fun w' => w'.cell? (ad135.add (x11_3).toNat) = some (.int .i64 (rd l2 x11_3)) ∧ w'.cell? (ad136.add (((rd l2 x11_3)).toNat * 3)) = some (.string ((rd_T75 l0 (rd l2 x11_3)).f0)) ∧ w'.cell? ⟨(ad136.add (((rd l2 x11_3)).toNat * 3)).block, (ad136.add (((rd l2 x11_3)).toNat * 3)).off + 1, none⟩ = some (.int .i64 ((rd_T75 l0 (rd l2 x11_3)).f1)) ∧ w'.cell? ⟨(ad136.add (((rd l2 x11_3)).toNat * 3)).block, (ad136.add (((rd l2 x11_3)).toNat * 3)).off + 2, none⟩ = some (.slice A136_2 ((rd_T75 l0 (rd l2 x11_3)).f2).length c136_2) ∧ w'.cell? (ad137.add ((x11_3).toNat * 2)) = some (.string ((rd_T76 l1 x11_3).f0)) ∧ w'.cell? ⟨(ad137.add ((x11_3).toNat * 2)).block, (ad137.add ((x11_3).toNat * 2)).off + 1, none⟩ = some (.int .i64 ((rd_T76 l1 x11_3).f1))) (ds := []) b5A0 zG83 rfl rfl ⟨((HB.out.cell (ze w _ hw135_0)).trans hw135_0), ((HB.out.cell (ze w _ hw136_0)).trans hw136_0), ((HB.out.cell (ze w _ hw136_1)).trans hw136_1), ((HB.out.cell (ze w _ hw136_2)).trans hw136_2), ((HB.out.cell (ze w _ hw137_0)).trans hw137_0), ((HB.out.cell (ze w _ hw137_1)).trans hw137_1)⟩ (fun hHeld => ?_); refine with_tabW spec_SourceOf.tab17 spec_SourceOf.bits17 (fun HT_ HW_ => ?_)
                      generalize wr.drew = w48 at HO_9 HO_130000 BK127 BK129 HB HR136_2 hx135_0 hx136_0 hx136_1 hx136_2 hx137_0 hx137_1 hHeld ⊢
                      refine pure_ (i := 0) (N := some 63) (v := ?_) (a' := ?_) b5A1 rfl rfl (any_of HT_.out zG83) (fun _ _ _ h => h) (Or.inl ⟨by rfl, ?_⟩) ?_ ?_
                      rotate_left
                      ·intro w'
                       go_simp
                       with_reducible rfl
                      rotate_left
                      ·simp only [Act.put, List.setIfInBounds_toArray, List.set_cons_zero, List.set_cons_succ, i64_w, i32_w]
                       rfl
                      refine pure_ (i := 1) (N := some 64) (v := ?_) (a' := ?_) b5A6 rfl rfl (any_of HT_.out zG83) (fun _ _ _ h => h) (Or.inl ⟨by rfl, ?_⟩) ?_ ?_
                      rotate_left
                      ·intro w'
                       go_simp
                       with_reducible rfl
                      rotate_left
                      ·simp only [Act.put, List.setIfInBounds_toArray, List.set_cons_zero, List.set_cons_succ, i64_w, i32_w]
                       rfl
                      refine pure_ (i := 2) (N := some 65) (v := ?_) (a' := ?_) b5A7 rfl rfl (any_of HT_.out zG83) (fun _ _ _ h => h) (Or.inl ⟨by rfl, ?_⟩) ?_ ?_
                      rotate_left
                      ·intro w'
                       go_simp
                       with_reducible rfl
                      rotate_left
                      ·simp only [Act.put, List.setIfInBounds_toArray, List.set_cons_zero, List.set_cons_succ, i64_w, i32_w]
                       rfl
                      refine pure_ (i := 3) (N := some 66) (v := ?_) (a' := ?_) b5A8 rfl rfl (any_of HT_.out zG83) (fun _ _ _ h => h) (Or.inl ⟨by rfl, ?_⟩) ?_ ?_
                      rotate_left
                      ·intro w'
                       go_simp
                       with_reducible rfl
                      rotate_left
                      ·simp only [Act.put, List.setIfInBounds_toArray, List.set_cons_zero, List.set_cons_succ, i64_w, i32_w]
                       rfl
                      refine pure_ (i := 7) (N := some 70) (v := ?_) (a' := ?_) b5A9 rfl rfl (any_of HT_.out zG83) (fun _ _ _ h => h) (Or.inl ⟨by rfl, ?_⟩) ?_ ?_
                      rotate_left
                      ·intro w'
                       go_simp
                       with_reducible rfl
                      rotate_left
                      ·simp only [Act.put, List.setIfInBounds_toArray, List.set_cons_zero, List.set_cons_succ, i64_w, i32_w]
                       rfl
                      refine pure_ (i := 8) (N := some 71) (v := ?_) (a' := ?_) b5A10 rfl rfl (any_of HT_.out zG83) (fun _ _ _ h => h) (Or.inl ⟨by rfl, ?_⟩) ?_ ?_
                      rotate_left
                      ·intro w'
                       go_simp
                       with_reducible rfl
                      rotate_left
                      ·simp only [Act.put, List.setIfInBounds_toArray, List.set_cons_zero, List.set_cons_succ, i64_w, i32_w]
                       rfl
                      refine pure_ (i := 9) (N := some 72) (v := ?_) (a' := ?_) b5A11 rfl rfl (any_of HT_.out zG83) (fun _ _ _ h => h) (Or.inl ⟨by rfl, ?_⟩) ?_ ?_
                      rotate_left
                      ·intro w'
                       go_simp
                       with_reducible rfl
                      rotate_left
                      ·simp only [Act.put, List.setIfInBounds_toArray, List.set_cons_zero, List.set_cons_succ, i64_w, i32_w]
                       rfl
                      refine take_ (i := 4) (N := some 67) (v := ?_) (a' := ?_) b5A12 rfl rfl (take_ofW HT_.out HW_.out zG83) (fun _ _ _ h => h) (Or.inl ⟨by rfl, ?_⟩) hHeld ?_ ?_
                      rotate_left
                      ·rintro w' ⟨s0, s1, s2, s3, s4, s5⟩
                       go_simp
                       with_reducible rfl
                      rotate_left
                      ·simp only [Act.put, List.setIfInBounds_toArray, List.set_cons_zero, List.set_cons_succ, i64_w, i32_w]
                       rfl
                      refine pure_ (i := 5) (N := some 68) (v := ?_) (a' := ?_) b5A13 rfl rfl (any_of HT_.out zG83) (fun _ _ _ h => h) (Or.inl ⟨by rfl, ?_⟩) ?_ ?_
                      rotate_left
                      ·intro w'
                       go_simp
                       with_reducible rfl
                      rotate_left
                      ·simp only [Act.put, List.setIfInBounds_toArray, List.set_cons_zero, List.set_cons_succ, i64_w, i32_w]
                       rfl
                      refine take_ (i := 6) (N := some 69) (v := ?_) (a' := ?_) b5A2 rfl rfl (take_ofW HT_.out HW_.out zG83) (fun _ _ _ h => h) (Or.inl ⟨by rfl, ?_⟩) hHeld ?_ ?_
                      rotate_left
                      ·rintro w' ⟨s0, s1, s2, s3, s4, s5⟩
                       go_simp
                       with_reducible rfl
                      rotate_left
                      ·simp only [Act.put, List.setIfInBounds_toArray, List.set_cons_zero, List.set_cons_succ, i64_w, i32_w]
                       rfl
                      refine take_ (i := 10) (N := some 73) (v := ?_) (a' := ?_) b5A3 rfl rfl (take_ofW HT_.out HW_.out zG83) (fun _ _ _ h => h) (Or.inl ⟨by rfl, ?_⟩) hHeld ?_ ?_
                      rotate_left
                      ·rintro w' ⟨s0, s1, s2, s3, s4, s5⟩
                       go_simp
                       with_reducible rfl
                      rotate_left
                      ·simp only [Act.put, List.setIfInBounds_toArray, List.set_cons_zero, List.set_cons_succ, i64_w, i32_w]
                       rfl
                      refine one_ (i := 11) (N := some 74) b5A4 rfl rfl (one_of HT_.out zG83) (by decide) (fun K hK => ?_)
                      refine goes_ Try.func38 zG83 rfl #[.agg #[.string ((rd_T75 l0 (rd l2 x11_3)).f0), .int .i64 ((rd_T75 l0 (rd l2 x11_3)).f1), .slice A136_2 ((rd_T75 l0 (rd l2 x11_3)).f2).length c136_2], .agg #[.string ((rd_T76 l1 x11_3).f0), .int .i64 ((rd_T76 l1 x11_3).f1)]] (by rfl) rfl rfl zG67 ?_
                      with_reducible refine (spec_l23Has.calls k3 ((rd_T75 l0 (rd l2 x11_3)).f0) ((rd_T75 l0 (rd l2 x11_3)).f1) _ _ ((rd_T75 l0 (rd l2 x11_3)).f2) ((rd_T76 l1 x11_3).f0) ((rd_T76 l1 x11_3).f1) true _ ?side1 ?side2 A34.out).mono ?_
                      (case side1 => repeat (first | exact (zw HR136_2.out HB.out) | (with_reducible refine zs ?_ _) | (with_reducible refine zt ?_ _) | (with_reducible refine zu ?_)))
                      (case side2 => exact HC136_2.out)
                      rintro e w49 ⟨rfl, hb⟩
                      refine ⟨_, rfl, ?_⟩
                      have n0_ := za (zp (by (with_reducible repeat (first | apply zk | apply zl | apply zn)); exact HO_9.out) hb)
                      have n1_ := za (zp (by (with_reducible repeat (first | apply zk | apply zl | apply zn)); exact HO_130000.out) hb)
                      have n2_ := za (zr (g := gb127) (o := .cells #[.slice none 0 0, .int .i64 x128001_3, .int .i64 x128002_3] 28 (0, 0)) zG73 hb)
                      have n3_ := za (zr (g := gb129) (o := .cells #[u130000, .int .i64 x130001_3, .int .i64 x130002_3] 28 (0, 0)) (by (with_reducible repeat (first | refine zh ?_ _ | refine zi ?_ | refine zg ?_ _)); exact BK129.out) hb)
                      have n4_ := za (zq zG65 hb)
                      clear HO_9
                      clear HO_130000
                      clear BK127
                      clear BK129
                      clear HB
                      have HO_9 := n0_
                      have HO_130000 := n1_
                      have BK127 := n2_
                      have BK129 := n3_
                      have HB := n4_
                      clear n0_ n1_ n2_ n3_ n4_
                      (try clear hb)
                      (try clear hb2)
                      (try clear hk)
                      (try clear hi)
                      refine hK.out _ _ ⟨((HB.out.cell (ze w _ hw135_0)).trans hw135_0), ((HB.out.cell (ze w _ hw136_0)).trans hw136_0), ((HB.out.cell (ze w _ hw136_1)).trans hw136_1), ((HB.out.cell (ze w _ hw136_2)).trans hw136_2), ((HB.out.cell (ze w _ hw137_0)).trans hw137_0), ((HB.out.cell (ze w _ hw137_1)).trans hw137_1)⟩ (fun hHeld => ?_)
                      clear hK K
                      refine norm_ (a' := ?_) ?_ ?_
                      rotate_left
                      ·show Act.put _ (some 74) _ = _
                       simp only [Act.put, List.setIfInBounds_toArray, List.set_cons_zero, List.set_cons_succ, i64_w, i32_w]
                       rfl
                      refine pure_ (i := 12) (N := some 75) (v := ?_) (a' := ?_) b5A5 rfl rfl (any_of HT_.out zG83) (fun _ _ _ h => h) (Or.inl ⟨by rfl, ?_⟩) ?_ ?_
                      rotate_left
                      ·intro w'
                       go_simp
                       with_reducible rfl
                      rotate_left
                      ·simp only [Act.put, List.setIfInBounds_toArray, List.set_cons_zero, List.set_cons_succ, i64_w, i32_w]
                       rfl
                      refine done_ (done_of HT_.out zG83) ?_
                      try go_wp2
                      have n0_ := za (zn HO_9.out)
                      have n1_ := za (zn HO_130000.out)
                      have n2_ := za (zi BK127.out)
                      have n3_ := za (zi BK129.out)
                      have n4_ := za (zc HB.out)
                      clear HO_9
                      clear HO_130000
                      clear BK127
                      clear BK129
                      clear HB
                      have HO_9 := n0_
                      have HO_130000 := n1_
                      have BK127 := n2_
                      have BK129 := n3_
                      have HB := n4_
                      clear n0_ n1_ n2_ n3_ n4_
                      have p139 : 0 ≤ (x11_3 : Int) := zO
                      have q139 : x11_3 < (l2.length : Int) := zO
                      obtain ⟨ad139, e139, hx139_0⟩ := zal HR2.out x11_3 p139 q139
                      have hw139_0 := hx139_0
                      obtain rfl : ad135 = ad139 := (by injection e139)
                      replace hx139_0 := (HB.out.cell (ze w _ hx139_0)).trans hx139_0
                      replace p139 := eq_true p139
                      replace q139 := eq_true q139
                      refine start_ (n := 10) (S := fun w' => w'.cell? ⟨gb129, 0, none⟩ = some (u130000) ∧ w'.cell? ⟨gb129, 1, none⟩ = some (.int .i64 x130001_3) ∧ w'.cell? ⟨gb129, 2, none⟩ = some (.int .i64 x130002_3) ∧ w'.cell? (ad135.add (x11_3).toNat) = some (.int .i64 (rd l2 x11_3))) (ds := [9]) b5A14 zG83 rfl rfl ⟨(zm BK129.out 0).trans rfl, (zm BK129.out 1).trans rfl, (zm BK129.out 2).trans rfl, ((HB.out.cell (ze w _ hw139_0)).trans hw139_0)⟩ (fun hHeld => ?_); refine with_tabW spec_SourceOf.tab19 spec_SourceOf.bits19 (fun HT_ HW_ => ?_)
                      generalize w49.drew = w50 at HO_9 HO_130000 BK127 BK129 HB hx139_0 hHeld ⊢
                      refine pure_ (i := 0) (N := some 77) (v := ?_) (a' := ?_) b5A15 rfl rfl (any_of HT_.out zG83) (fun _ _ _ h => h) (Or.inl ⟨by rfl, ?_⟩) ?_ ?_
                      rotate_left
                      ·intro w'
                       go_simp
                       with_reducible rfl
                      rotate_left
                      ·simp only [Act.put, List.setIfInBounds_toArray, List.set_cons_zero, List.set_cons_succ, i64_w, i32_w]
                       rfl
                      refine pure_ (i := 2) (N := some 79) (v := ?_) (a' := ?_) b5A16 rfl rfl (any_of HT_.out zG83) (fun _ _ _ h => h) (Or.inl ⟨by rfl, ?_⟩) ?_ ?_
                      rotate_left
                      ·intro w'
                       go_simp
                       with_reducible rfl
                      rotate_left
                      ·simp only [Act.put, List.setIfInBounds_toArray, List.set_cons_zero, List.set_cons_succ, i64_w, i32_w]
                       rfl
                      refine pure_ (i := 3) (N := some 80) (v := ?_) (a' := ?_) b5A17 rfl rfl (any_of HT_.out zG83) (fun _ _ _ h => h) (Or.inl ⟨by rfl, ?_⟩) ?_ ?_
                      rotate_left
                      ·intro w'
                       go_simp
                       with_reducible rfl
                      rotate_left
                      ·simp only [Act.put, List.setIfInBounds_toArray, List.set_cons_zero, List.set_cons_succ, i64_w, i32_w]
                       rfl
                      refine pure_ (i := 4) (N := some 81) (v := ?_) (a' := ?_) b5A18 rfl rfl (any_of HT_.out zG83) (fun _ _ _ h => h) (Or.inl ⟨by rfl, ?_⟩) ?_ ?_
                      rotate_left
                      ·intro w'
                       go_simp
                       with_reducible rfl
                      rotate_left
                      ·simp only [Act.put, List.setIfInBounds_toArray, List.set_cons_zero, List.set_cons_succ, i64_w, i32_w]
                       rfl
                      refine take_ (i := 1) (N := some 78) (v := ?_) (a' := ?_) b5A19 rfl rfl (take_ofW HT_.out HW_.out zG83) (fun _ _ _ h => h) (Or.inl ⟨by rfl, ?_⟩) hHeld ?_ ?_
                      rotate_left
                      ·rintro w' ⟨s0, s1, s2, s3⟩
                       go_simp
                       with_reducible rfl
                      rotate_left
                      ·simp only [Act.put, List.setIfInBounds_toArray, List.set_cons_zero, List.set_cons_succ, i64_w, i32_w]
                       rfl
                      refine take_ (i := 5) (N := some 82) (v := ?_) (a' := ?_) b5A20 rfl rfl (take_ofW HT_.out HW_.out zG83) (fun _ _ _ h => h) (Or.inl ⟨by rfl, ?_⟩) hHeld ?_ ?_
                      rotate_left
                      ·rintro w' ⟨s0, s1, s2, s3⟩
                       go_simp
                       with_reducible rfl
                      rotate_left
                      ·simp only [Act.put, List.setIfInBounds_toArray, List.set_cons_zero, List.set_cons_succ, i64_w, i32_w]
                       rfl
                      refine one_ (i := 6) (N := some 83) b5A21 rfl rfl (one_of HT_.out zG83) (by decide) (fun K hK => ?_)
                      refine value_ (w1 := ?_) (v := ?_) (by rfl) rfl ?_ ?_
                      rotate_left 2
                      ·go_simp
                       constructor
                       ·rfl
                       ·rfl
                      refine hK.out _ _ ⟨(zm (zg BK129.out _) 0).trans rfl, (zm (zg BK129.out _) 1).trans rfl, (zm (zg BK129.out _) 2).trans rfl, (World.cell?_alloc_lt _ _ _ (ze _ _ (((HB.out.cell (ze w _ hw139_0)).trans hw139_0)))).trans (((HB.out.cell (ze w _ hw139_0)).trans hw139_0))⟩ (fun hHeld => ?_)
                      clear hK K
                      refine norm_ (a' := ?_) ?_ ?_
                      rotate_left
                      ·show Act.put _ (some 83) _ = _
                       simp only [Act.put, List.setIfInBounds_toArray, List.set_cons_zero, List.set_cons_succ, i64_w, i32_w]
                       rfl
                      refine one_ (i := 7) (N := some 84) b5A22 rfl rfl (one_of HT_.out zG83) (by decide) (fun K hK => ?_)
                      refine Kd.R_append_step (Kd.int .i64) (w0 := w) w.heap.size (by rfl) (.tmp 78) (.tmp 83) 24 3 (.int .i64 0) 8 rfl Try.underlying24 info3 rfl (by decide) (by omega) u130000 x130000_3 (rd l2 x11_3) [.int .i64 (rd l2 x11_3)] (fun _ => True) (fun _ => False) rfl rfl ?aP (fun _ hk => hk.elim) ?aF ?aO ?aB ?aS ?aL ?_
                      (case aP => exact rfl)
                      (case aB => exact zG65)
                      (case aF => exact (fun _ _ => trivial))
                      (case aO => exact (by (with_reducible repeat (first | apply zk | apply zl | apply zn)); exact HO_130000.out))
                      (case aS => exact (zo zG65))
                      (case aL => have := LMc36.out; omega)
                      intro v141 w51 ho hb hg hat
                      rw [← Ny140.out] at ho
                      have n0_ := za (Kd.R_over' (by (with_reducible repeat (first | apply zk | apply zl | apply zn)); exact HO_9.out) (zar (by (with_reducible repeat (first | apply zk | apply zl | apply zn)); exact HO_130000.out)) (by decide) hg)
                      have n1_ := za (zbg (g := gb127) (o := .cells #[.slice none 0 0, .int .i64 x128001_3, .int .i64 x128002_3] 28 (0, 0)) zG73 hg (zas HO_130000.out BK127.out (by decide)))
                      have n2_ := za (zbg (g := gb129) (o := .cells #[u130000, .int .i64 x130001_3, .int .i64 x130002_3] 28 (0, 0)) (by (with_reducible repeat (first | refine zh ?_ _ | refine zi ?_ | refine zg ?_ _)); exact BK129.out) hg (zas HO_130000.out BK129.out (by decide)))
                      have n3_ := za (hb)
                      have n4_ := za (ho)
                      clear HO_9
                      clear BK127
                      clear BK129
                      clear HB
                      clear HO_130000
                      have HO_9 := n0_
                      have BK127 := n1_
                      have BK129 := n2_
                      have HB := n3_
                      have HO142 := n4_
                      clear n0_ n1_ n2_ n3_ n4_
                      clear ho hb hg hat
                      obtain ⟨Ao52, co52, eo52⟩ := zaf HO142.out
                      (first | subst eo52 | (injection eo52 with f1_ f2_ f3_; have f4_ := f1_.symm; have f5_ := f3_.symm; clear f1_ f2_ f3_; subst f4_; subst f5_))
                      refine hK.out _ _ ⟨(zm BK129.out 0).trans rfl, (zm BK129.out 1).trans rfl, (zm BK129.out 2).trans rfl, ((HB.out.cell (ze w _ hw139_0)).trans hw139_0)⟩ (fun hHeld => ?_)
                      clear hK K
                      refine norm_ (a' := ?_) ?_ ?_
                      rotate_left
                      ·show Act.put _ (some 84) _ = _
                       simp only [Act.put, List.setIfInBounds_toArray, List.set_cons_zero, List.set_cons_succ, i64_w, i32_w]
                       rfl
                      refine pure_ (i := 8) (N := some 85) (v := ?_) (a' := ?_) b5A23 rfl rfl (any_of HT_.out zG83) (fun _ _ _ h => h) (Or.inl ⟨by rfl, ?_⟩) ?_ ?_
                      rotate_left
                      ·intro w'
                       go_simp
                       with_reducible rfl
                      rotate_left
                      ·simp only [Act.put, List.setIfInBounds_toArray, List.set_cons_zero, List.set_cons_succ, i64_w, i32_w]
                       rfl
                      refine last_ (i := 9) (N := none) b5A24 rfl rfl (one_of HT_.out zG83) (by decide) (fun K hK => ?_)
                      have hs53 : w51.cell? ⟨gb129, 0, none⟩ = some (u130000) := (zm BK129.out 0).trans rfl
                      have hfs53 := zj BK129.out 0
                      have hns53_0 := NB127_129.out
                      have hms53_0 := NB129_127.out
                      refine skip_ (w1 := ?_) (by rfl) rfl ?_ ?_
                      rotate_left
                      ·go_simp
                       rfl
                      refine hK.out _ _ ?_
                      clear hK K
                      refine done_ (done_of HT_.out zG83) ?_
                      have n0_ : Aside0 (Kd.R Kd.bool 4 (w51.setCell ⟨gb129, 0, none⟩ (.slice Ao52 y140.length co52)) w.heap.size (fun _ => True) v131 x9_3) := ⟨by (with_reducible repeat (first | apply zk | apply zl | apply zn)); exact zx (zv (p := ⟨gb129, 0, none⟩) (zac HO_9.out BK129.out (by decide)) (fun _ hk => hk.2) (.slice Ao52 y140.length co52)) (fun _ hk => trivial)⟩
                      have n1_ : Aside0 (Kd.R (Kd.int .i64) 3 (w51.setCell ⟨gb129, 0, none⟩ (.slice Ao52 y140.length co52)) w.heap.size (fun _ => True) (.slice Ao52 y140.length co52) y140) := ⟨by (with_reducible repeat (first | apply zk | apply zl | apply zn)); exact zx (zv (p := ⟨gb129, 0, none⟩) (zac HO142.out BK129.out (by decide)) (fun _ hk => hk.2) (.slice Ao52 y140.length co52)) (fun _ hk => trivial)⟩
                      have n2_ : Aside0 ((w51.setCell ⟨gb129, 0, none⟩ (.slice Ao52 y140.length co52)).heap[gb127]? = some (.cells #[.slice none 0 0, .int .i64 x128001_3, .int .i64 x128002_3] 28 (0, 0))) := ⟨by (with_reducible repeat (first | refine zh ?_ _ | refine zi ?_ | refine zg ?_ _)); refine zag ?_ NB127_129.out _; (with_reducible repeat (first | refine zh ?_ _ | refine zi ?_ | refine zg ?_ _)); exact BK127.out⟩
                      have n3_ : Aside0 ((w51.setCell ⟨gb129, 0, none⟩ (.slice Ao52 y140.length co52)).heap[gb129]? = some (.cells #[.slice Ao52 y140.length co52, .int .i64 x130001_3, .int .i64 x130002_3] 28 (0, 0))) := ⟨by (with_reducible repeat (first | refine zh ?_ _ | refine zi ?_ | refine zg ?_ _)); refine zy (cs := #[u130000, .int .i64 x130001_3, .int .i64 x130002_3]) ?_ 0 _ rfl; (with_reducible repeat (first | refine zh ?_ _ | refine zi ?_ | refine zg ?_ _)); exact BK129.out⟩
                      have n4_ : Aside0 (Below w.heap.size w (w51.setCell ⟨gb129, 0, none⟩ (.slice Ao52 y140.length co52))) := ⟨by repeat (first | (with_reducible first | exact HB.out | apply zd | apply zb | apply zc | refine zf ?_ GE127.out | refine zf ?_ GE129.out) | exact HB.out)⟩
                      (try clear HO_9)
                      (try clear HO142)
                      (try clear BK127)
                      (try clear BK129)
                      (try clear HB)
                      generalize (w51.setCell ⟨gb129, 0, none⟩ (.slice Ao52 y140.length co52)) = w54 at n0_ n1_ n2_ n3_ n4_ ⊢
                      have HO_9 := n0_
                      have HO142 := n1_
                      have BK127 := n2_
                      have BK129 := n3_
                      have HB := n4_
                      clear n0_ n1_ n2_ n3_ n4_
                      have p143 : 0 ≤ (x11_3 : Int) := zO
                      have q143 : x11_3 < (l2.length : Int) := zO
                      obtain ⟨ad143, e143, hx143_0⟩ := zal HR2.out x11_3 p143 q143
                      obtain rfl : ad135 = ad143 := (by injection e143)
                      replace hx143_0 := (HB.out.cell (ze w _ hx143_0)).trans hx143_0
                      replace p143 := eq_true p143
                      replace q143 := eq_true q143
                      obtain ⟨Ao55, co55, eo55⟩ := zaf HO_9.out
                      subst eo55
                      have p144 : 0 ≤ ((rd l2 x11_3) : Int) := zO
                      have q144 : (rd l2 x11_3) < (x9_3.length : Int) := zO
                      obtain ⟨ad144, e144, hx144_0⟩ := Kd.at_bool (Kd.R_reads' HO_9.out).2.2 (rd l2 x11_3) p144 q144
                      (try rw [← Nbq38.out] at hx144_0)
                      cases e144
                      replace p144 := eq_true p144
                      replace q144 := eq_true q144
                      have p145 : 0 ≤ (x11_3 : Int) := zO
                      have q145 : x11_3 < (l2.length : Int) := zO
                      obtain ⟨ad145, e145, hx145_0⟩ := zal HR2.out x11_3 p145 q145
                      obtain rfl : ad135 = ad145 := (by injection e145)
                      replace hx145_0 := (HB.out.cell (ze w _ hx145_0)).trans hx145_0
                      replace p145 := eq_true p145
                      replace q145 := eq_true q145
                      have p47 : 0 ≤ ((rd l2 x11_3) : Int) := zO
                      have q47 : ((rd l2 x11_3) : Int) < ((x9_3.length : Int) : Int) := zO
                      obtain ⟨go47, co47, eo47, gb47, gl47, cl47, HG47⟩ := zbj HO_9.out (by omega)
                      (first | cases eo47 | (injection eo47 with ea_ en_ ec_; (first | subst ea_ | (injection ea_ with ea_; subst ea_)); subst ec_; clear en_))
                      have GB47 := za gb47
                      have GG47 := za HG47
                      clear gb47 gl47 HG47
                      (first | simp only [add_plain] at hx144_0 | skip)
                      obtain ⟨hx47_0, hf47_0⟩ := Kd.R_celln false HO_9.out ((rd l2 x11_3) : Int) p47 q47
                      replace p47 := eq_true p47
                      replace q47 := eq_true q47
                      obtain ⟨hy56_, hz56_⟩ := Kd.R_celln false HO_9.out ((rd l2 x11_3) : Int) zO zO
                      have HP56 := Kd.R_putg HO_9.out ((rd l2 x11_3) : Int) true
                      try go_wp2_with (first | ((with_reducible refine gate_store (t := 4) (p := 99) rfl ?_); refine store_event (t := 4) (p := 99) (v := ?vo_w57) (w1 := (w54.setCell ⟨go47, ((rd l2 x11_3) : Int).toNat, none⟩ (.bool true))) ?hg ?ho ?hn ?hr ?_; (case ho => rfl); (case hg => rfl); (case hn => rfl); (case hr => first | (go_simp; done) | (go_simp; rfl)); intro w57 hw; have hg : w54.grownBy w57 (some go47) := (by rw [hw]; exact HP56.2); have hp_ : Kd.R Kd.bool 4 w57 w.heap.size (fun _ => True) (.slice (some ⟨go47, 0, none⟩) x9_3.length co55) y146 := (by rw [hw, Ny146.out]; exact HP56.1); clear HP56; have n0_ := za (hp_); have n1_ := za (zbg (g := gb127) (o := .cells #[.slice none 0 0, .int .i64 x128001_3, .int .i64 x128002_3] 28 (0, 0)) zG73 hg (zas HO_9.out BK127.out (by decide))); have n2_ := za (zbg (g := gb129) (o := .cells #[.slice Ao52 y140.length co52, .int .i64 x130001_3, .int .i64 x130002_3] 28 (0, 0)) (by (with_reducible repeat (first | refine zh ?_ _ | refine zi ?_ | refine zg ?_ _)); exact BK129.out) hg (zas HO_9.out BK129.out (by decide))); have n3_ := za (Kd.R_over' (v := (.slice (some ⟨go47, 0, none⟩) x9_3.length co55)) (by (with_reducible repeat (first | apply zk | apply zl | apply zn)); exact HO142.out) (zar HO_9.out) (by decide) hg); have n4_ := za ((by rw [hw]; exact zf (HB.out) GB47.out : Below w.heap.size w w57)); clear HO_9; clear BK127; clear BK129; clear HO142; clear HB; have HO_9 := n0_; have BK127 := n1_; have BK129 := n2_; have HO142 := n3_; have HB := n4_; clear n0_ n1_ n2_ n3_ n4_; clear hg hw hp_; have hnb58 := NB129_127.out; have hnc58 := NB127_129.out; have hcz59_0 : w57.cell? ⟨gb129, 0, none⟩ = some (.slice Ao52 y140.length co52) := (zm BK129.out 0).trans rfl; have hcz59_1 : w57.cell? ⟨gb129, 1, none⟩ = some (.int .i64 x130001_3) := (zm BK129.out 1).trans rfl; have hcz59_2 : w57.cell? ⟨gb129, 2, none⟩ = some (.int .i64 x130002_3) := (zm BK129.out 2).trans rfl; have hfz59_0 := zj BK129.out 0; have hfz59_1 := zj BK129.out 1; have hfz59_2 := zj BK129.out 2))
                      have n0_ : Aside0 (Kd.R Kd.bool 4 (w57.setCell ⟨gb129, 1, none⟩ (.int .i64 (wrap64 (x130001_3 + 1)))) w.heap.size (fun _ => True) (.slice (some ⟨go47, 0, none⟩) x9_3.length co55) y146) := ⟨by (with_reducible repeat (first | apply zk | apply zl | apply zn)); exact zx (zv (p := ⟨gb129, 1, none⟩) (zac HO_9.out BK129.out (by decide)) (fun _ hk => hk.2) (.int .i64 (wrap64 (x130001_3 + 1)))) (fun _ hk => trivial)⟩
                      have n1_ : Aside0 (Kd.R (Kd.int .i64) 3 (w57.setCell ⟨gb129, 1, none⟩ (.int .i64 (wrap64 (x130001_3 + 1)))) w.heap.size (fun _ => True) (.slice Ao52 y140.length co52) y140) := ⟨by (with_reducible repeat (first | apply zk | apply zl | apply zn)); exact zx (zv (p := ⟨gb129, 1, none⟩) (zac HO142.out BK129.out (by decide)) (fun _ hk => hk.2) (.int .i64 (wrap64 (x130001_3 + 1)))) (fun _ hk => trivial)⟩
                      have n2_ : Aside0 ((w57.setCell ⟨gb129, 1, none⟩ (.int .i64 (wrap64 (x130001_3 + 1)))).heap[gb127]? = some (.cells #[.slice none 0 0, .int .i64 x128001_3, .int .i64 x128002_3] 28 (0, 0))) := ⟨by (with_reducible repeat (first | refine zh ?_ _ | refine zi ?_ | refine zg ?_ _)); refine zag ?_ NB127_129.out _; (with_reducible repeat (first | refine zh ?_ _ | refine zi ?_ | refine zg ?_ _)); exact BK127.out⟩
                      have n3_ : Aside0 ((w57.setCell ⟨gb129, 1, none⟩ (.int .i64 (wrap64 (x130001_3 + 1)))).heap[gb129]? = some (.cells #[.slice Ao52 y140.length co52, .int .i64 (wrap64 (x130001_3 + 1)), .int .i64 x130002_3] 28 (0, 0))) := ⟨by (with_reducible repeat (first | refine zh ?_ _ | refine zi ?_ | refine zg ?_ _)); refine zy (cs := #[.slice Ao52 y140.length co52, .int .i64 x130001_3, .int .i64 x130002_3]) ?_ 1 _ rfl; (with_reducible repeat (first | refine zh ?_ _ | refine zi ?_ | refine zg ?_ _)); exact BK129.out⟩
                      have n4_ : Aside0 (Below w.heap.size w (w57.setCell ⟨gb129, 1, none⟩ (.int .i64 (wrap64 (x130001_3 + 1))))) := ⟨by repeat (first | (with_reducible first | exact HB.out | apply zd | apply zb | apply zc | refine zf ?_ GE127.out | refine zf ?_ GE129.out) | exact HB.out)⟩
                      (try clear HO_9)
                      (try clear HO142)
                      (try clear BK127)
                      (try clear BK129)
                      (try clear HB)
                      generalize (w57.setCell ⟨gb129, 1, none⟩ (.int .i64 (wrap64 (x130001_3 + 1)))) = w60 at n0_ n1_ n2_ n3_ n4_ ⊢
                      have HO_9 := n0_
                      have HO142 := n1_
                      have BK127 := n2_
                      have BK129 := n3_
                      have HB := n4_
                      clear n0_ n1_ n2_ n3_ n4_
                      have n0_ := za (zn HO_9.out)
                      have n1_ := za (zn HO142.out)
                      have n2_ := za (zi BK127.out)
                      have n3_ := za (zi BK129.out)
                      have n4_ := za (zc HB.out)
                      clear HO_9
                      clear HO142
                      clear BK127
                      clear BK129
                      clear HB
                      have HO_9 := n0_
                      have HO142 := n1_
                      have BK127 := n2_
                      have BK129 := n3_
                      have HB := n4_
                      clear n0_ n1_ n2_ n3_ n4_
                      have p147 : 0 ≤ (x11_3 : Int) := zO
                      have q147 : x11_3 < (l2.length : Int) := zO
                      obtain ⟨ad147, e147, hx147_0⟩ := zal HR2.out x11_3 p147 q147
                      have hw147_0 := hx147_0
                      obtain rfl : ad135 = ad147 := (by injection e147)
                      replace hx147_0 := (HB.out.cell (ze w _ hx147_0)).trans hx147_0
                      replace p147 := eq_true p147
                      replace q147 := eq_true q147
                      have p148 : 0 ≤ ((rd l2 x11_3) : Int) := zO
                      have q148 : (rd l2 x11_3) < (l0.length : Int) := zO
                      obtain ⟨ad148, A148_2, c148_2, e148, hx148_0, hx148_1, hx148_2, hl148_2, hi148_2⟩ := at_T75 HR0.out (rd l2 x11_3) p148 q148
                      have hw148_2 := hx148_2
                      have hw148_1 := hx148_1
                      have hw148_0 := hx148_0
                      obtain rfl : ad136 = ad148 := (by injection e148)
                      replace hx148_0 := (HB.out.cell (ze w _ hx148_0)).trans hx148_0
                      replace hx148_1 := (HB.out.cell (ze w _ hx148_1)).trans hx148_1
                      replace hx148_2 := (HB.out.cell (ze w _ hx148_2)).trans hx148_2
                      have HR148_2 := za hi148_2
                      have HC148_2 := za hl148_2
                      clear hi148_2 hl148_2
                      replace p148 := eq_true p148
                      replace q148 := eq_true q148
                      refine start_ (n := 13) (S := fun w' => w'.cell? ⟨gb129, 0, none⟩ = some (.slice Ao52 y140.length co52) ∧ w'.cell? ⟨gb129, 1, none⟩ = some (.int .i64 (wrap64 (x130001_3 + 1))) ∧ w'.cell? ⟨gb129, 2, none⟩ = some (.int .i64 x130002_3) ∧ w'.cell? (ad135.add (x11_3).toNat) = some (.int .i64 (rd l2 x11_3)) ∧ w'.cell? (ad136.add (((rd l2 x11_3)).toNat * 3)) = some (.string ((rd_T75 l0 (rd l2 x11_3)).f0)) ∧ w'.cell? ⟨(ad136.add (((rd l2 x11_3)).toNat * 3)).block, (ad136.add (((rd l2 x11_3)).toNat * 3)).off + 1, none⟩ = some (.int .i64 ((rd_T75 l0 (rd l2 x11_3)).f1)) ∧ w'.cell? ⟨(ad136.add (((rd l2 x11_3)).toNat * 3)).block, (ad136.add (((rd l2 x11_3)).toNat * 3)).off + 2, none⟩ = some (.slice A148_2 ((rd_T75 l0 (rd l2 x11_3)).f2).length c148_2)) (ds := [12]) b5A0 zG83 rfl rfl ⟨(zm BK129.out 0).trans rfl, (zm BK129.out 1).trans rfl, (zm BK129.out 2).trans rfl, ((HB.out.cell (ze w _ hw147_0)).trans hw147_0), ((HB.out.cell (ze w _ hw148_0)).trans hw148_0), ((HB.out.cell (ze w _ hw148_1)).trans hw148_1), ((HB.out.cell (ze w _ hw148_2)).trans hw148_2)⟩ (fun hHeld => ?_); refine with_tabW spec_SourceOf.tab23 spec_SourceOf.bits23 (fun HT_ HW_ => ?_)
                      generalize w60.drew = w61 at HO_9 HO142 BK127 BK129 HB HR148_2 hx147_0 hx148_0 hx148_1 hx148_2 hHeld ⊢
                      refine pure_ (i := 0) (N := some 104) (v := ?_) (a' := ?_) b5A1 rfl rfl (any_of HT_.out zG83) (fun _ _ _ h => h) (Or.inl ⟨by rfl, ?_⟩) ?_ ?_
                      rotate_left
                      ·intro w'
                       go_simp
                       with_reducible rfl
                      rotate_left
                      ·simp only [Act.put, List.setIfInBounds_toArray, List.set_cons_zero, List.set_cons_succ, i64_w, i32_w]
                       rfl
                      refine pure_ (i := 2) (N := some 106) (v := ?_) (a' := ?_) #[true, false, true, false, false, false, false, false, false, false, false, false, false] rfl rfl (any_of HT_.out zG83) (fun _ _ _ h => h) (Or.inl ⟨by rfl, ?_⟩) ?_ ?_
                      rotate_left
                      ·intro w'
                       go_simp
                       with_reducible rfl
                      rotate_left
                      ·simp only [Act.put, List.setIfInBounds_toArray, List.set_cons_zero, List.set_cons_succ, i64_w, i32_w]
                       rfl
                      refine pure_ (i := 3) (N := some 107) (v := ?_) (a' := ?_) #[true, false, true, true, false, false, false, false, false, false, false, false, false] rfl rfl (any_of HT_.out zG83) (fun _ _ _ h => h) (Or.inl ⟨by rfl, ?_⟩) ?_ ?_
                      rotate_left
                      ·intro w'
                       go_simp
                       with_reducible rfl
                      rotate_left
                      ·simp only [Act.put, List.setIfInBounds_toArray, List.set_cons_zero, List.set_cons_succ, i64_w, i32_w]
                       rfl
                      refine pure_ (i := 4) (N := some 108) (v := ?_) (a' := ?_) #[true, false, true, true, true, false, false, false, false, false, false, false, false] rfl rfl (any_of HT_.out zG83) (fun _ _ _ h => h) (Or.inl ⟨by rfl, ?_⟩) ?_ ?_
                      rotate_left
                      ·intro w'
                       go_simp
                       with_reducible rfl
                      rotate_left
                      ·simp only [Act.put, List.setIfInBounds_toArray, List.set_cons_zero, List.set_cons_succ, i64_w, i32_w]
                       rfl
                      refine pure_ (i := 5) (N := some 109) (v := ?_) (a' := ?_) #[true, false, true, true, true, true, false, false, false, false, false, false, false] rfl rfl (any_of HT_.out zG83) (fun _ _ _ h => h) (Or.inl ⟨by rfl, ?_⟩) ?_ ?_
                      rotate_left
                      ·intro w'
                       go_simp
                       with_reducible rfl
                      rotate_left
                      ·simp only [Act.put, List.setIfInBounds_toArray, List.set_cons_zero, List.set_cons_succ, i64_w, i32_w]
                       rfl
                      refine take_ (i := 1) (N := some 105) (v := ?_) (a' := ?_) #[true, true, true, true, true, true, false, false, false, false, false, false, false] rfl rfl (take_ofW HT_.out HW_.out zG83) (fun _ _ _ h => h) (Or.inl ⟨by rfl, ?_⟩) hHeld ?_ ?_
                      rotate_left
                      ·rintro w' ⟨s0, s1, s2, s3, s4, s5, s6⟩
                       go_simp
                       with_reducible rfl
                      rotate_left
                      ·simp only [Act.put, List.setIfInBounds_toArray, List.set_cons_zero, List.set_cons_succ, i64_w, i32_w]
                       rfl
                      refine take_ (i := 6) (N := some 110) (v := ?_) (a' := ?_) #[true, true, true, true, true, true, true, false, false, false, false, false, false] rfl rfl (take_ofW HT_.out HW_.out zG83) (fun _ _ _ h => h) (Or.inl ⟨by rfl, ?_⟩) hHeld ?_ ?_
                      rotate_left
                      ·rintro w' ⟨s0, s1, s2, s3, s4, s5, s6⟩
                       go_simp
                       with_reducible rfl
                      rotate_left
                      ·simp only [Act.put, List.setIfInBounds_toArray, List.set_cons_zero, List.set_cons_succ, i64_w, i32_w]
                       rfl
                      refine pure_ (i := 7) (N := some 111) (v := ?_) (a' := ?_) #[true, true, true, true, true, true, true, true, false, false, false, false, false] rfl rfl (any_of HT_.out zG83) (fun _ _ _ h => h) (Or.inl ⟨by rfl, ?_⟩) ?_ ?_
                      rotate_left
                      ·intro w'
                       go_simp
                       with_reducible rfl
                      rotate_left
                      ·simp only [Act.put, List.setIfInBounds_toArray, List.set_cons_zero, List.set_cons_succ, i64_w, i32_w]
                       rfl
                      refine pure_ (i := 8) (N := some 112) (v := ?_) (a' := ?_) #[true, true, true, true, true, true, true, true, true, false, false, false, false] rfl rfl (any_of HT_.out zG83) (fun _ _ _ h => h) (Or.inl ⟨by rfl, ?_⟩) ?_ ?_
                      rotate_left
                      ·intro w'
                       go_simp
                       with_reducible rfl
                      rotate_left
                      ·simp only [Act.put, List.setIfInBounds_toArray, List.set_cons_zero, List.set_cons_succ, i64_w, i32_w]
                       rfl
                      refine take_ (i := 9) (N := some 113) (v := ?_) (a' := ?_) b5A2 rfl rfl (take_ofW HT_.out HW_.out zG83) (fun _ _ _ h => h) (Or.inl ⟨by rfl, ?_⟩) hHeld ?_ ?_
                      rotate_left
                      ·rintro w' ⟨s0, s1, s2, s3, s4, s5, s6⟩
                       go_simp
                       with_reducible rfl
                      rotate_left
                      ·simp only [Act.put, List.setIfInBounds_toArray, List.set_cons_zero, List.set_cons_succ, i64_w, i32_w]
                       rfl
                      refine pure_ (i := 10) (N := some 114) (v := ?_) (a' := ?_) b5A3 rfl rfl (any_of HT_.out zG83) (fun _ _ _ h => h) (Or.inl ⟨by rfl, ?_⟩) ?_ ?_
                      rotate_left
                      ·intro w'
                       go_simp
                       with_reducible rfl
                      rotate_left
                      ·simp only [Act.put, List.setIfInBounds_toArray, List.set_cons_zero, List.set_cons_succ, i64_w, i32_w]
                       rfl
                      refine pure_ (i := 11) (N := some 115) (v := ?_) (a' := ?_) b5A4 rfl rfl (any_of HT_.out zG83) (fun _ _ _ h => h) (Or.inl ⟨by rfl, ?_⟩) ?_ ?_
                      rotate_left
                      ·intro w'
                       go_simp
                       with_reducible rfl
                      rotate_left
                      ·simp only [Act.put, List.setIfInBounds_toArray, List.set_cons_zero, List.set_cons_succ, i64_w, i32_w]
                       rfl
                      refine last_ (i := 12) (N := none) b5A5 rfl rfl (one_of HT_.out zG83) (by decide) (fun K hK => ?_)
                      have hs62 : w61.cell? ⟨gb129, 2, none⟩ = some (.int .i64 x130002_3) := (zm BK129.out 2).trans rfl
                      have hfs62 := zj BK129.out 2
                      have hns62_0 := NB127_129.out
                      have hms62_0 := NB129_127.out
                      refine skip_ (w1 := ?_) (by rfl) rfl ?_ ?_
                      rotate_left
                      ·go_simp
                       rfl
                      refine hK.out _ _ ?_
                      clear hK K
                      refine done_ (done_of HT_.out zG83) ?_
                      try go_wp2
                      go_roundg k3
                      case measure => have := HJ3.out; have := HK2.out; have := HK3.out; omega
                      case rel => exact ⟨(y146), (wrap64 (x11_3 + 1)), (x128001_3), (x128002_3), (y140), (wrap64 (x130001_3 + 1)), (wrap64 (x130002_3 + ((rd_T75 l0 (rd l2 x11_3)).f1))), (.slice Ao52 y140.length co52), zG82, H', ⟨by have := HJ3.out; have := HK2.out; have := HK3.out; omega⟩, ⟨by (with_reducible repeat (first | apply zk | apply zl | apply zn)); exact zx (zv (p := ⟨gb129, 2, none⟩) (zac HO_9.out BK129.out (by decide)) (fun _ hk => hk.2) (.int .i64 (wrap64 (x130002_3 + ((rd_T75 l0 (rd l2 x11_3)).f1))))) (fun _ hk => trivial)⟩, ⟨by (with_reducible repeat (first | apply zk | apply zl | apply zn)); exact zx (zv (p := ⟨gb129, 2, none⟩) (zac HO142.out BK129.out (by decide)) (fun _ hk => hk.2) (.int .i64 (wrap64 (x130002_3 + ((rd_T75 l0 (rd l2 x11_3)).f1))))) (fun _ hk => trivial)⟩, ⟨by (with_reducible repeat (first | refine zh ?_ _ | refine zi ?_ | refine zg ?_ _)); refine zag ?_ NB127_129.out _; (with_reducible repeat (first | refine zh ?_ _ | refine zi ?_ | refine zg ?_ _)); exact BK127.out⟩, ⟨by (with_reducible repeat (first | refine zh ?_ _ | refine zi ?_ | refine zg ?_ _)); refine zy (cs := #[.slice Ao52 y140.length co52, .int .i64 (wrap64 (x130001_3 + 1)), .int .i64 x130002_3]) ?_ 2 _ rfl; (with_reducible repeat (first | refine zh ?_ _ | refine zi ?_ | refine zg ?_ _)); exact BK129.out⟩, ⟨by repeat (first | (with_reducible first | exact HB.out | apply zd | apply zb | apply zc | refine zf ?_ GE127.out | refine zf ?_ GE129.out) | exact HB.out)⟩⟩
                    ·rw [if_neg c37] at H
                     exact absurd H (by simp)
                   ·rw [if_neg c36] at H
                    exact absurd H (by simp)
                  ·replace c35 := Bool.eq_false_iff.mpr c35
                   subst c35
                   have H1 : (some (([] : List Int), 0, 0, 19)) = some (r1, r2, r3, r4) := by rw [if_neg (show ¬ (false = true) by decide)] at H; exact H
                   clear H
                   have H := H1
                   clear H1
                   simp only [Option.some.injEq, Prod.mk.injEq] at H
                   obtain ⟨rfl, rfl, rfl, rfl⟩ := H
                   try go_wp2
                   have n0_ := za (zn HO_9.out)
                   have n1_ := za (zn HO_130000.out)
                   have n2_ := za (zi BK127.out)
                   have n3_ := za (zi BK129.out)
                   have n4_ := za (zc HB.out)
                   clear HO_9
                   clear HO_130000
                   clear BK127
                   clear BK129
                   clear HB
                   have HO_9 := n0_
                   have HO_130000 := n1_
                   have BK127 := n2_
                   have BK129 := n3_
                   have HB := n4_
                   clear n0_ n1_ n2_ n3_ n4_
                   have p135 : 0 ≤ (x11_3 : Int) := zO
                   have q135 : x11_3 < (l2.length : Int) := zO
                   obtain ⟨ad135, e135, hx135_0⟩ := zal HR2.out x11_3 p135 q135
                   have hw135_0 := hx135_0
                   cases e135
                   replace hx135_0 := (HB.out.cell (ze w _ hx135_0)).trans hx135_0
                   replace p135 := eq_true p135
                   replace q135 := eq_true q135
                   have p136 : 0 ≤ ((rd l2 x11_3) : Int) := zO
                   have q136 : (rd l2 x11_3) < (l0.length : Int) := zO
                   obtain ⟨ad136, A136_2, c136_2, e136, hx136_0, hx136_1, hx136_2, hl136_2, hi136_2⟩ := at_T75 HR0.out (rd l2 x11_3) p136 q136
                   have hw136_2 := hx136_2
                   have hw136_1 := hx136_1
                   have hw136_0 := hx136_0
                   cases e136
                   replace hx136_0 := (HB.out.cell (ze w _ hx136_0)).trans hx136_0
                   replace hx136_1 := (HB.out.cell (ze w _ hx136_1)).trans hx136_1
                   replace hx136_2 := (HB.out.cell (ze w _ hx136_2)).trans hx136_2
                   have HR136_2 := za hi136_2
                   have HC136_2 := za hl136_2
                   clear hi136_2 hl136_2
                   replace p136 := eq_true p136
                   replace q136 := eq_true q136
                   have p137 : 0 ≤ (x11_3 : Int) := zO
                   have q137 : x11_3 < (l1.length : Int) := zO
                   obtain ⟨ad137, e137, hx137_0, hx137_1⟩ := at_T76 HR1.out x11_3 p137 q137
                   have hw137_1 := hx137_1
                   have hw137_0 := hx137_0
                   cases e137
                   replace hx137_0 := (HB.out.cell (ze w _ hx137_0)).trans hx137_0
                   replace hx137_1 := (HB.out.cell (ze w _ hx137_1)).trans hx137_1
                   replace p137 := eq_true p137
                   replace q137 := eq_true q137
                   refine start_ (n := 13) (S := fun w' => w'.cell? (ad135.add (x11_3).toNat) = some (.int .i64 (rd l2 x11_3)) ∧ w'.cell? (ad136.add (((rd l2 x11_3)).toNat * 3)) = some (.string ((rd_T75 l0 (rd l2 x11_3)).f0)) ∧ w'.cell? ⟨(ad136.add (((rd l2 x11_3)).toNat * 3)).block, (ad136.add (((rd l2 x11_3)).toNat * 3)).off + 1, none⟩ = some (.int .i64 ((rd_T75 l0 (rd l2 x11_3)).f1)) ∧ w'.cell? ⟨(ad136.add (((rd l2 x11_3)).toNat * 3)).block, (ad136.add (((rd l2 x11_3)).toNat * 3)).off + 2, none⟩ = some (.slice A136_2 ((rd_T75 l0 (rd l2 x11_3)).f2).length c136_2) ∧ w'.cell? (ad137.add ((x11_3).toNat * 2)) = some (.string ((rd_T76 l1 x11_3).f0)) ∧ w'.cell? ⟨(ad137.add ((x11_3).toNat * 2)).block, (ad137.add ((x11_3).toNat * 2)).off + 1, none⟩ = some (.int .i64 ((rd_T76 l1 x11_3).f1))) (ds := []) b5A0 zG83 rfl rfl ⟨((HB.out.cell (ze w _ hw135_0)).trans hw135_0), ((HB.out.cell (ze w _ hw136_0)).trans hw136_0), ((HB.out.cell (ze w _ hw136_1)).trans hw136_1), ((HB.out.cell (ze w _ hw136_2)).trans hw136_2), ((HB.out.cell (ze w _ hw137_0)).trans hw137_0), ((HB.out.cell (ze w _ hw137_1)).trans hw137_1)⟩ (fun hHeld => ?_); refine with_tabW spec_SourceOf.tab17 spec_SourceOf.bits17 (fun HT_ HW_ => ?_)
                   generalize wr.drew = w63 at HO_9 HO_130000 BK127 BK129 HB HR136_2 hx135_0 hx136_0 hx136_1 hx136_2 hx137_0 hx137_1 hHeld ⊢
                   refine pure_ (i := 0) (N := some 63) (v := ?_) (a' := ?_) b5A1 rfl rfl (any_of HT_.out zG83) (fun _ _ _ h => h) (Or.inl ⟨by rfl, ?_⟩) ?_ ?_
                   rotate_left
                   ·intro w'
                    go_simp
                    with_reducible rfl
                   rotate_left
                   ·simp only [Act.put, List.setIfInBounds_toArray, List.set_cons_zero, List.set_cons_succ, i64_w, i32_w]
                    rfl
                   refine pure_ (i := 1) (N := some 64) (v := ?_) (a' := ?_) b5A6 rfl rfl (any_of HT_.out zG83) (fun _ _ _ h => h) (Or.inl ⟨by rfl, ?_⟩) ?_ ?_
                   rotate_left
                   ·intro w'
                    go_simp
                    with_reducible rfl
                   rotate_left
                   ·simp only [Act.put, List.setIfInBounds_toArray, List.set_cons_zero, List.set_cons_succ, i64_w, i32_w]
                    rfl
                   refine pure_ (i := 2) (N := some 65) (v := ?_) (a' := ?_) b5A7 rfl rfl (any_of HT_.out zG83) (fun _ _ _ h => h) (Or.inl ⟨by rfl, ?_⟩) ?_ ?_
                   rotate_left
                   ·intro w'
                    go_simp
                    with_reducible rfl
                   rotate_left
                   ·simp only [Act.put, List.setIfInBounds_toArray, List.set_cons_zero, List.set_cons_succ, i64_w, i32_w]
                    rfl
                   refine pure_ (i := 3) (N := some 66) (v := ?_) (a' := ?_) b5A8 rfl rfl (any_of HT_.out zG83) (fun _ _ _ h => h) (Or.inl ⟨by rfl, ?_⟩) ?_ ?_
                   rotate_left
                   ·intro w'
                    go_simp
                    with_reducible rfl
                   rotate_left
                   ·simp only [Act.put, List.setIfInBounds_toArray, List.set_cons_zero, List.set_cons_succ, i64_w, i32_w]
                    rfl
                   refine pure_ (i := 7) (N := some 70) (v := ?_) (a' := ?_) b5A9 rfl rfl (any_of HT_.out zG83) (fun _ _ _ h => h) (Or.inl ⟨by rfl, ?_⟩) ?_ ?_
                   rotate_left
                   ·intro w'
                    go_simp
                    with_reducible rfl
                   rotate_left
                   ·simp only [Act.put, List.setIfInBounds_toArray, List.set_cons_zero, List.set_cons_succ, i64_w, i32_w]
                    rfl
                   refine pure_ (i := 8) (N := some 71) (v := ?_) (a' := ?_) b5A10 rfl rfl (any_of HT_.out zG83) (fun _ _ _ h => h) (Or.inl ⟨by rfl, ?_⟩) ?_ ?_
                   rotate_left
                   ·intro w'
                    go_simp
                    with_reducible rfl
                   rotate_left
                   ·simp only [Act.put, List.setIfInBounds_toArray, List.set_cons_zero, List.set_cons_succ, i64_w, i32_w]
                    rfl
                   refine pure_ (i := 9) (N := some 72) (v := ?_) (a' := ?_) b5A11 rfl rfl (any_of HT_.out zG83) (fun _ _ _ h => h) (Or.inl ⟨by rfl, ?_⟩) ?_ ?_
                   rotate_left
                   ·intro w'
                    go_simp
                    with_reducible rfl
                   rotate_left
                   ·simp only [Act.put, List.setIfInBounds_toArray, List.set_cons_zero, List.set_cons_succ, i64_w, i32_w]
                    rfl
                   refine take_ (i := 4) (N := some 67) (v := ?_) (a' := ?_) b5A12 rfl rfl (take_ofW HT_.out HW_.out zG83) (fun _ _ _ h => h) (Or.inl ⟨by rfl, ?_⟩) hHeld ?_ ?_
                   rotate_left
                   ·rintro w' ⟨s0, s1, s2, s3, s4, s5⟩
                    go_simp
                    with_reducible rfl
                   rotate_left
                   ·simp only [Act.put, List.setIfInBounds_toArray, List.set_cons_zero, List.set_cons_succ, i64_w, i32_w]
                    rfl
                   refine pure_ (i := 5) (N := some 68) (v := ?_) (a' := ?_) b5A13 rfl rfl (any_of HT_.out zG83) (fun _ _ _ h => h) (Or.inl ⟨by rfl, ?_⟩) ?_ ?_
                   rotate_left
                   ·intro w'
                    go_simp
                    with_reducible rfl
                   rotate_left
                   ·simp only [Act.put, List.setIfInBounds_toArray, List.set_cons_zero, List.set_cons_succ, i64_w, i32_w]
                    rfl
                   refine take_ (i := 6) (N := some 69) (v := ?_) (a' := ?_) b5A2 rfl rfl (take_ofW HT_.out HW_.out zG83) (fun _ _ _ h => h) (Or.inl ⟨by rfl, ?_⟩) hHeld ?_ ?_
                   rotate_left
                   ·rintro w' ⟨s0, s1, s2, s3, s4, s5⟩
                    go_simp
                    with_reducible rfl
                   rotate_left
                   ·simp only [Act.put, List.setIfInBounds_toArray, List.set_cons_zero, List.set_cons_succ, i64_w, i32_w]
                    rfl
                   refine take_ (i := 10) (N := some 73) (v := ?_) (a' := ?_) b5A3 rfl rfl (take_ofW HT_.out HW_.out zG83) (fun _ _ _ h => h) (Or.inl ⟨by rfl, ?_⟩) hHeld ?_ ?_
                   rotate_left
                   ·rintro w' ⟨s0, s1, s2, s3, s4, s5⟩
                    go_simp
                    with_reducible rfl
                   rotate_left
                   ·simp only [Act.put, List.setIfInBounds_toArray, List.set_cons_zero, List.set_cons_succ, i64_w, i32_w]
                    rfl
                   refine one_ (i := 11) (N := some 74) b5A4 rfl rfl (one_of HT_.out zG83) (by decide) (fun K hK => ?_)
                   refine goes_ Try.func38 zG83 rfl #[.agg #[.string ((rd_T75 l0 (rd l2 x11_3)).f0), .int .i64 ((rd_T75 l0 (rd l2 x11_3)).f1), .slice A136_2 ((rd_T75 l0 (rd l2 x11_3)).f2).length c136_2], .agg #[.string ((rd_T76 l1 x11_3).f0), .int .i64 ((rd_T76 l1 x11_3).f1)]] (by rfl) rfl rfl zG67 ?_
                   with_reducible refine (spec_l23Has.calls k3 ((rd_T75 l0 (rd l2 x11_3)).f0) ((rd_T75 l0 (rd l2 x11_3)).f1) _ _ ((rd_T75 l0 (rd l2 x11_3)).f2) ((rd_T76 l1 x11_3).f0) ((rd_T76 l1 x11_3).f1) false _ ?side1 ?side2 A34.out).mono ?_
                   (case side1 => repeat (first | exact (zw HR136_2.out HB.out) | (with_reducible refine zs ?_ _) | (with_reducible refine zt ?_ _) | (with_reducible refine zu ?_)))
                   (case side2 => exact HC136_2.out)
                   rintro e w64 ⟨rfl, hb⟩
                   refine ⟨_, rfl, ?_⟩
                   have n0_ := za (zp (by (with_reducible repeat (first | apply zk | apply zl | apply zn)); exact HO_9.out) hb)
                   have n1_ := za (zp (by (with_reducible repeat (first | apply zk | apply zl | apply zn)); exact HO_130000.out) hb)
                   have n2_ := za (zr (g := gb127) (o := .cells #[.slice none 0 0, .int .i64 x128001_3, .int .i64 x128002_3] 28 (0, 0)) zG73 hb)
                   have n3_ := za (zr (g := gb129) (o := .cells #[u130000, .int .i64 x130001_3, .int .i64 x130002_3] 28 (0, 0)) (by (with_reducible repeat (first | refine zh ?_ _ | refine zi ?_ | refine zg ?_ _)); exact BK129.out) hb)
                   have n4_ := za (zq zG65 hb)
                   clear HO_9
                   clear HO_130000
                   clear BK127
                   clear BK129
                   clear HB
                   have HO_9 := n0_
                   have HO_130000 := n1_
                   have BK127 := n2_
                   have BK129 := n3_
                   have HB := n4_
                   clear n0_ n1_ n2_ n3_ n4_
                   (try clear hb)
                   (try clear hb2)
                   (try clear hk)
                   (try clear hi)
                   refine hK.out _ _ ⟨((HB.out.cell (ze w _ hw135_0)).trans hw135_0), ((HB.out.cell (ze w _ hw136_0)).trans hw136_0), ((HB.out.cell (ze w _ hw136_1)).trans hw136_1), ((HB.out.cell (ze w _ hw136_2)).trans hw136_2), ((HB.out.cell (ze w _ hw137_0)).trans hw137_0), ((HB.out.cell (ze w _ hw137_1)).trans hw137_1)⟩ (fun hHeld => ?_)
                   clear hK K
                   refine norm_ (a' := ?_) ?_ ?_
                   rotate_left
                   ·show Act.put _ (some 74) _ = _
                    simp only [Act.put, List.setIfInBounds_toArray, List.set_cons_zero, List.set_cons_succ, i64_w, i32_w]
                    rfl
                   refine pure_ (i := 12) (N := some 75) (v := ?_) (a' := ?_) b5A5 rfl rfl (any_of HT_.out zG83) (fun _ _ _ h => h) (Or.inl ⟨by rfl, ?_⟩) ?_ ?_
                   rotate_left
                   ·intro w'
                    go_simp
                    with_reducible rfl
                   rotate_left
                   ·simp only [Act.put, List.setIfInBounds_toArray, List.set_cons_zero, List.set_cons_succ, i64_w, i32_w]
                    rfl
                   refine done_ (done_of HT_.out zG83) ?_
                   have hnb65 := NB127_129.out
                   have hnc65 := NB129_127.out
                   have hcz66_0 : w64.cell? ⟨gb127, 0, none⟩ = some (.slice none 0 0) := (zm BK127.out 0).trans rfl
                   have hcz66_1 : w64.cell? ⟨gb127, 1, none⟩ = some (.int .i64 x128001_3) := (zm BK127.out 1).trans rfl
                   have hcz66_2 : w64.cell? ⟨gb127, 2, none⟩ = some (.int .i64 x128002_3) := (zm BK127.out 2).trans rfl
                   have hfz66_0 := zj BK127.out 0
                   have hfz66_1 := zj BK127.out 1
                   have hfz66_2 := zj BK127.out 2
                   try go_wp2
                   refine bodyPost_ret (results_ct rfl _ _ gb127 28 #[.slice none 0 0, .int .i64 0, .int .i64 0] (0, 0) _ rfl (by (with_reducible repeat (first | refine zh ?_ _ | refine zi ?_ | refine zg ?_ _)); refine zy (cs := #[.slice none 0 0, .int .i64 0, .int .i64 x128002_3]) ?_ 2 _ rfl; (with_reducible repeat (first | refine zh ?_ _ | refine zi ?_ | refine zg ?_ _)); refine zy (cs := #[.slice none 0 0, .int .i64 x128001_3, .int .i64 x128002_3]) ?_ 1 _ rfl; (with_reducible repeat (first | refine zh ?_ _ | refine zi ?_ | refine zg ?_ _)); refine zy (cs := #[.slice none 0 0, .int .i64 x128001_3, .int .i64 x128002_3]) ?_ 0 _ rfl; (with_reducible repeat (first | refine zh ?_ _ | refine zi ?_ | refine zg ?_ _)); exact BK127.out) Try.underlying28 rfl zG83) rfl ?_
                   exact ⟨_, by first | rfl | (simp [errW_none, errW_some] <;> rfl) | (simp [*, errW_none, errW_some] <;> rfl), by first | exact zaw _ _ _ _ _ | exact zaz _ _ _ _ _ | exact zba _ _ _ _ _ | exact zbb _ _ _ _ _ | exact zbc _ _ _ _ _, by repeat (first | (with_reducible first | exact HB.out | apply zd | apply zb | apply zc | refine zf ?_ GE127.out | refine zf ?_ GE129.out) | exact HB.out)⟩
                 ·rw [if_neg c33] at H
                  exact absurd H (by simp)
                ·rw [if_neg c32] at H
                 exact absurd H (by simp)
               ·rw [if_neg c31] at H
                exact absurd H (by simp)
              ·rw [if_neg c30] at H
               exact absurd H (by simp)
             ·rw [if_neg c29] at H
              have c29b0 : decide (x11_3 < (l2.length : Int)) = false := decide_eq_false c29
              clear c29
              simp only [Option.some.injEq, Prod.mk.injEq] at H
              obtain ⟨rfl, rfl, rfl, rfl⟩ := H
              have hnb67 := NB129_127.out
              have hnc67 := NB127_129.out
              have hcz68_0 : wr.cell? ⟨gb129, 0, none⟩ = some (u130000) := (zm BK129.out 0).trans rfl
              have hcz68_1 : wr.cell? ⟨gb129, 1, none⟩ = some (.int .i64 x130001_3) := (zm BK129.out 1).trans rfl
              have hcz68_2 : wr.cell? ⟨gb129, 2, none⟩ = some (.int .i64 x130002_3) := (zm BK129.out 2).trans rfl
              have hfz68_0 := zj BK129.out 0
              have hfz68_1 := zj BK129.out 1
              have hfz68_2 := zj BK129.out 2
              obtain ⟨Ao69, co69, eo69⟩ := zaf HO_130000.out
              subst eo69
              have hcz70_0 : wr.cell? ⟨gb127, 0, none⟩ = some (.slice none 0 0) := (zm BK127.out 0).trans rfl
              have hcz70_1 : wr.cell? ⟨gb127, 1, none⟩ = some (.int .i64 x128001_3) := (zm BK127.out 1).trans rfl
              have hcz70_2 : wr.cell? ⟨gb127, 2, none⟩ = some (.int .i64 x128002_3) := (zm BK127.out 2).trans rfl
              have hfz70_0 := zj BK127.out 0
              have hfz70_1 := zj BK127.out 1
              have hfz70_2 := zj BK127.out 2
              go_wp2
              refine bodyPost_ret (results_ct rfl _ _ gb127 28 #[.slice Ao69 x130000_3.length co69, .int .i64 x130001_3, .int .i64 x130002_3] (0, 0) _ rfl (by (with_reducible repeat (first | refine zh ?_ _ | refine zi ?_ | refine zg ?_ _)); refine zy (cs := #[.slice Ao69 x130000_3.length co69, .int .i64 x130001_3, .int .i64 x128002_3]) ?_ 2 _ rfl; (with_reducible repeat (first | refine zh ?_ _ | refine zi ?_ | refine zg ?_ _)); refine zy (cs := #[.slice Ao69 x130000_3.length co69, .int .i64 x128001_3, .int .i64 x128002_3]) ?_ 1 _ rfl; (with_reducible repeat (first | refine zh ?_ _ | refine zi ?_ | refine zg ?_ _)); refine zy (cs := #[.slice none 0 0, .int .i64 x128001_3, .int .i64 x128002_3]) ?_ 0 _ rfl; (with_reducible repeat (first | refine zh ?_ _ | refine zi ?_ | refine zg ?_ _)); exact BK127.out) Try.underlying28 rfl zG83) rfl ?_
              exact ⟨_, by first | rfl | (simp [errW_none, errW_some] <;> rfl) | (simp [*, errW_none, errW_some] <;> rfl), by (with_reducible repeat (first | apply zk | apply zl | apply zn)); exact zx (zv (p := ⟨gb127, 2, none⟩) (zv (p := ⟨gb127, 1, none⟩) (zv (p := ⟨gb127, 0, none⟩) (zac HO_130000.out BK127.out (by decide)) (fun _ hk => hk.2) (.slice Ao69 x130000_3.length co69)) (fun _ hk => hk.2) (.int .i64 x130001_3)) (fun _ hk => hk.2) (.int .i64 x130002_3)) (fun _ hk => trivial), by repeat (first | (with_reducible first | exact HB.out | apply zd | apply zb | apply zc | refine zf ?_ GE127.out | refine zf ?_ GE129.out) | exact HB.out)⟩
       ·rw [if_neg c14] at H
        exact absurd H (by simp)
      ·rw [if_neg c13] at H
       exact absurd H (by simp)
     ·rw [if_neg c12] at H
      have c12b0 : ((l2.length : Int) == (l1.length : Int)) = false := beq_eq_false_iff_ne.mpr c12
      have c12b1 : ((l2.length : Int) != (l1.length : Int)) = true := bne_iff_ne.mpr c12
      have c12b2 : (l2.length == l1.length) = false := by first | simpa using c12 | (simp at c12 ⊢; omega)
      simp only [Option.some.injEq, Prod.mk.injEq] at H
      obtain ⟨rfl, rfl, rfl, rfl⟩ := H
      go_wp2_with (first | ((with_reducible refine gate_callee (f := 36) rfl ?_); refine goesL_ (some 28) rfl rfl Try.func36 zG83 rfl #[.slice A0 l0.length c0, .slice A1 l1.length c1] rfl zG67 ?_; (with_reducible refine (spec_SourcesOK.calls kj3 _ _ l0 _ _ l1 true _ ?side1 ?side2 ?side3 ?side4 A10.out).mono ?_); (case side1 => repeat (first | exact (zw HR0.out HB.out) | (with_reducible refine zs ?_ _) | (with_reducible refine zt ?_ _) | (with_reducible refine zu ?_))); (case side2 => exact HC0.out); (case side3 => repeat (first | exact (zw HR1.out HB.out) | (with_reducible refine zs ?_ _) | (with_reducible refine zt ?_ _) | (with_reducible refine zu ?_))); (case side4 => exact HC1.out); rintro e w71 ⟨rfl, hb⟩; refine ⟨_, rfl, ?_⟩; have n0_ := za (zr (g := gb127) (o := .cells #[.slice none 0 0, .int .i64 0, .int .i64 0] 28 (0, 0)) zG73 hb); have n1_ := za (zq (by repeat (first | (with_reducible first | exact HB.out | apply zd | apply zb | apply zc | refine zf ?_ GE127.out) | exact HB.out)) hb); clear BK127; clear HB; have BK127 := n0_; have HB := n1_; clear n0_ n1_; (try clear hb); (try clear hb2); (try clear hk); (try clear hi); have hcz72_0 : w71.cell? ⟨gb127, 0, none⟩ = some (.slice none 0 0) := (zm BK127.out 0).trans rfl; have hcz72_1 : w71.cell? ⟨gb127, 1, none⟩ = some (.int .i64 0) := (zm BK127.out 1).trans rfl; have hcz72_2 : w71.cell? ⟨gb127, 2, none⟩ = some (.int .i64 0) := (zm BK127.out 2).trans rfl; have hfz72_0 := zj BK127.out 0; have hfz72_1 := zj BK127.out 1; have hfz72_2 := zj BK127.out 2))
      refine bodyPost_ret (results_ct rfl _ _ gb127 28 #[.slice none 0 0, .int .i64 0, .int .i64 0] (0, 0) _ rfl (by (with_reducible repeat (first | refine zh ?_ _ | refine zi ?_ | refine zg ?_ _)); refine zy (cs := #[.slice none 0 0, .int .i64 0, .int .i64 0]) ?_ 2 _ rfl; (with_reducible repeat (first | refine zh ?_ _ | refine zi ?_ | refine zg ?_ _)); refine zy (cs := #[.slice none 0 0, .int .i64 0, .int .i64 0]) ?_ 1 _ rfl; (with_reducible repeat (first | refine zh ?_ _ | refine zi ?_ | refine zg ?_ _)); refine zy (cs := #[.slice none 0 0, .int .i64 0, .int .i64 0]) ?_ 0 _ rfl; (with_reducible repeat (first | refine zh ?_ _ | refine zi ?_ | refine zg ?_ _)); exact BK127.out) Try.underlying28 rfl zG83) rfl ?_
      exact ⟨_, by first | rfl | (simp [errW_none, errW_some] <;> rfl) | (simp [*, errW_none, errW_some] <;> rfl), by first | exact zaw _ _ _ _ _ | exact zaz _ _ _ _ _ | exact zba _ _ _ _ _ | exact zbb _ _ _ _ _ | exact zbc _ _ _ _ _, by repeat (first | (with_reducible first | exact HB.out | apply zd | apply zb | apply zc | refine zf ?_ GE127.out) | exact HB.out)⟩
    ·replace c11 := Bool.eq_false_iff.mpr c11
     subst c11
     have H1 : (some (([] : List Int), 0, 0, 1)) = some (r1, r2, r3, r4) := by rw [if_neg (show ¬ (false = true) by decide)] at H; exact H
     clear H
     have H := H1
     clear H1
     simp only [Option.some.injEq, Prod.mk.injEq] at H
     obtain ⟨rfl, rfl, rfl, rfl⟩ := H
     go_wp2_with (first | ((with_reducible refine gate_callee (f := 36) rfl ?_); refine goesL_ (some 28) rfl rfl Try.func36 zG83 rfl #[.slice A0 l0.length c0, .slice A1 l1.length c1] rfl zG67 ?_; (with_reducible refine (spec_SourcesOK.calls kj3 _ _ l0 _ _ l1 false _ ?side1 ?side2 ?side3 ?side4 A10.out).mono ?_); (case side1 => repeat (first | exact (zw HR0.out HB.out) | (with_reducible refine zs ?_ _) | (with_reducible refine zt ?_ _) | (with_reducible refine zu ?_))); (case side2 => exact HC0.out); (case side3 => repeat (first | exact (zw HR1.out HB.out) | (with_reducible refine zs ?_ _) | (with_reducible refine zt ?_ _) | (with_reducible refine zu ?_))); (case side4 => exact HC1.out); rintro e w73 ⟨rfl, hb⟩; refine ⟨_, rfl, ?_⟩; have n0_ := za (zr (g := gb127) (o := .cells #[.slice none 0 0, .int .i64 0, .int .i64 0] 28 (0, 0)) zG73 hb); have n1_ := za (zq (by repeat (first | (with_reducible first | exact HB.out | apply zd | apply zb | apply zc | refine zf ?_ GE127.out) | exact HB.out)) hb); clear BK127; clear HB; have BK127 := n0_; have HB := n1_; clear n0_ n1_; (try clear hb); (try clear hb2); (try clear hk); (try clear hi); have hcz74_0 : w73.cell? ⟨gb127, 0, none⟩ = some (.slice none 0 0) := (zm BK127.out 0).trans rfl; have hcz74_1 : w73.cell? ⟨gb127, 1, none⟩ = some (.int .i64 0) := (zm BK127.out 1).trans rfl; have hcz74_2 : w73.cell? ⟨gb127, 2, none⟩ = some (.int .i64 0) := (zm BK127.out 2).trans rfl; have hfz74_0 := zj BK127.out 0; have hfz74_1 := zj BK127.out 1; have hfz74_2 := zj BK127.out 2))
     refine bodyPost_ret (results_ct rfl _ _ gb127 28 #[.slice none 0 0, .int .i64 0, .int .i64 0] (0, 0) _ rfl (by (with_reducible repeat (first | refine zh ?_ _ | refine zi ?_ | refine zg ?_ _)); refine zy (cs := #[.slice none 0 0, .int .i64 0, .int .i64 0]) ?_ 2 _ rfl; (with_reducible repeat (first | refine zh ?_ _ | refine zi ?_ | refine zg ?_ _)); refine zy (cs := #[.slice none 0 0, .int .i64 0, .int .i64 0]) ?_ 1 _ rfl; (with_reducible repeat (first | refine zh ?_ _ | refine zi ?_ | refine zg ?_ _)); refine zy (cs := #[.slice none 0 0, .int .i64 0, .int .i64 0]) ?_ 0 _ rfl; (with_reducible repeat (first | refine zh ?_ _ | refine zi ?_ | refine zg ?_ _)); exact BK127.out) Try.underlying28 rfl zG83) rfl ?_
     exact ⟨_, by first | rfl | (simp [errW_none, errW_some] <;> rfl) | (simp [*, errW_none, errW_some] <;> rfl), by first | exact zaw _ _ _ _ _ | exact zaz _ _ _ _ _ | exact zba _ _ _ _ _ | exact zbb _ _ _ _ _ | exact zbc _ _ _ _ _, by repeat (first | (with_reducible first | exact HB.out | apply zd | apply zb | apply zc | refine zf ?_ GE127.out) | exact HB.out)⟩

end Go.Proofs.Ytjibigpdbpipcaa.L
