-- squeezed
-- made by pp.py (wip/tools) out of the translation; Lean checks it
import Derived.Test.YtdohpbhljifodaaC0
import Derived.Test.YtdohpbhljifodaaC3
namespace Go.Proofs.Ytdohpbhljifodaa.C
open Go.RowKit Go.Proofs.YtdohpbhljifodaaW.PrintWords Go.Proofs.YtdohpbhljifodaaW.PrintLast Go.Proofs.YtdohpbhljifodaaW.PrintMore
attribute [local go_sem] max2_int min2_int max_two min_two max_three min_three max_four min_four   -- for this text's walks alone
set_option linter.unusedVariables false
set_option linter.unusedSimpArgs false

abbrev b4A0 := zM 18 32767
abbrev b4A1 := zM 18 32759
abbrev q4a := @Kd.R_reads'
/-! ### spec_l23Act: function 26 -/
mutual
def spec_l23Act.j0 : Nat → Bool → Int → Int → Int → List (S36) → Int → Int → Int → Int → Option (Int × Int × Int × (List (S36)) × Int)
 | 0, _, _, _, _, _, _, _, _, _ => none
 | k + 1, x29, x147000, x147001, x147002, x147003, x148000, x148001, x148002, x148003 => if x29 = true then (some (x147000, x147001, x147002, x147003, 5)) else (if x148002 > x147001 then (some (x147000, x147001, x147002, x147003, 19)) else ((some (([] : List (S36)) : List (S36))).bind fun y152 => (if y152.length + x147003.length < 5864062014805 then ((some (y152 ++ x147003 : List (S36))).bind fun y155 => ((some (([(⟨x148001, x148002, wrap64 (x147000 + x148003)⟩ : S36)] : List (S36)) : List (S36))).bind fun y158 => (if y155.length + y158.length < 5864062014805 then (some (x147000, wrap64 (x147001 - x148002), x147002, (y155 ++ y158), 0)) else (none)))) else (none))))
def spec_l23Act.j1 : Nat → Int → Bool → Int → Int → Int → List (S36) → Int → Int → Int → Int → Option (Int × Int × Int × (List (S36)) × Int)
 | 0, _, _, _, _, _, _, _, _, _, _ => none
 | k + 1, x11, x61, x147000, x147001, x147002, x147003, x148000, x148001, x148002, x148003 => if x61 = true then (if x148001 < 1 then (some (x147000, x147001, x147002, x147003, 5)) else ((spec_l23End.f k x147000 x147001 x147002 x147003 x148001).bind fun bt164 => (if bt164.2.2.2.2 = 0 then (some (x147000, x147001, x147002, x147003, 8)) else (if x148000 = 2 then (some (bt164.1, bt164.2.1, wrap64 (bt164.2.2.1 + bt164.2.2.2.2), bt164.2.2.2.1, 0)) else (some (bt164.1, wrap64 (bt164.2.1 + bt164.2.2.2.2), bt164.2.2.1, bt164.2.2.2.1, 0)))))) else (if x11 = 4 then ((spec_l01In.f x148003 0 10000).bind fun t172 => (if t172 = true then ((spec_l23End.f k (wrap64 (x147000 + x148003)) x147001 x147002 x147003 0).bind fun bt173 => (some (bt173.1, wrap64 (bt173.2.1 + bt173.2.2.2.2), bt173.2.2.1, bt173.2.2.2.1, 0))) else (some (x147000, x147001, x147002, x147003, 5)))) else (some (x147000, x147001, x147002, x147003, 13)))
end
def spec_l23Act.f (k : Nat) (a0_0 : Int) (a0_1 : Int) (a0_2 : Int) (l0_3 : List (S36)) (a1_0 : Int) (a1_1 : Int) (a1_2 : Int) (a1_3 : Int) : Option (Int × Int × Int × (List (S36)) × Int) := if a1_0 = 1 then ((spec_l01In.f a1_1 1 1000000).bind fun t149 => (if t149 = true then ((spec_l01In.f a1_2 1 100000).bind fun t150 => (if t150 = true then ((spec_l01In.f a1_3 1 10000).bind fun t151 => (spec_l23Act.j0 k (!t151) a0_0 a0_1 a0_2 l0_3 a1_0 a1_1 a1_2 a1_3)) else (spec_l23Act.j0 k true a0_0 a0_1 a0_2 l0_3 a1_0 a1_1 a1_2 a1_3))) else (spec_l23Act.j0 k true a0_0 a0_1 a0_2 l0_3 a1_0 a1_1 a1_2 a1_3))) else (if a1_0 = 2 then (spec_l23Act.j1 k a1_0 (a1_0 == 2) a0_0 a0_1 a0_2 l0_3 a1_0 a1_1 a1_2 a1_3) else (spec_l23Act.j1 k a1_0 (a1_0 == 3) a0_0 a0_1 a0_2 l0_3 a1_0 a1_1 a1_2 a1_3))
theorem spec_l23Act.mono_l : ∀ k, (∀ y0 y1 y2 y3 y4 y5 y6 y7 y8, LeO (spec_l23Act.j0 k y0 y1 y2 y3 y4 y5 y6 y7 y8) (spec_l23Act.j0 (k + 1) y0 y1 y2 y3 y4 y5 y6 y7 y8)) ∧ (∀ y0 y1 y2 y3 y4 y5 y6 y7 y8 y9, LeO (spec_l23Act.j1 k y0 y1 y2 y3 y4 y5 y6 y7 y8 y9) (spec_l23Act.j1 (k + 1) y0 y1 y2 y3 y4 y5 y6 y7 y8 y9))
 | 0 => ⟨fun _ _ _ _ _ _ _ _ _ r h => by simp [spec_l23Act.j0] at h, fun _ _ _ _ _ _ _ _ _ _ r h => by simp [spec_l23Act.j1] at h⟩
 | k + 1 => by
  obtain ⟨ih0, ih1⟩ := spec_l23Act.mono_l k
  refine ⟨?_, ?_⟩
  ·intro y0 y1 y2 y3 y4 y5 y6 y7 y8
   unfold spec_l23Act.j0
   repeat' first
   | (with_reducible exact ih0 _ _ _ _ _ _ _ _ _)
   | (with_reducible exact ih1 _ _ _ _ _ _ _ _ _ _)
   | (with_reducible exact spec_l23End.mono _ _ _ _ _ _)
   | (with_reducible exact LeO.refl _)
   | (with_reducible exact LeO.none _)
   | (with_reducible refine LeO.ite ?_ ?_)
   | (with_reducible refine LeO.bind ?_ (fun _ => ?_))
   | exact ih0 _ _ _ _ _ _ _ _ _
   | exact ih1 _ _ _ _ _ _ _ _ _ _
   | exact spec_l23End.mono _ _ _ _ _ _
   | exact LeO.none _
   | refine LeO.ite ?_ ?_
   | refine LeO.bind ?_ (fun _ => ?_)
  ·intro y0 y1 y2 y3 y4 y5 y6 y7 y8 y9
   unfold spec_l23Act.j1
   repeat' first
   | (with_reducible exact ih0 _ _ _ _ _ _ _ _ _)
   | (with_reducible exact ih1 _ _ _ _ _ _ _ _ _ _)
   | (with_reducible exact spec_l23End.mono _ _ _ _ _ _)
   | (with_reducible exact LeO.refl _)
   | (with_reducible exact LeO.none _)
   | (with_reducible refine LeO.ite ?_ ?_)
   | (with_reducible refine LeO.bind ?_ (fun _ => ?_))
   | exact ih0 _ _ _ _ _ _ _ _ _
   | exact ih1 _ _ _ _ _ _ _ _ _ _
   | exact spec_l23End.mono _ _ _ _ _ _
   | exact LeO.none _
   | refine LeO.ite ?_ ?_
   | refine LeO.bind ?_ (fun _ => ?_)
theorem spec_l23Act.mono : ∀ a0 a1 a2 a3 a4 a5 a6 a7 k, LeO (spec_l23Act.f k a0 a1 a2 a3 a4 a5 a6 a7) (spec_l23Act.f (k + 1) a0 a1 a2 a3 a4 a5 a6 a7) := by
 intro a0 a1 a2 a3 a4 a5 a6 a7 k
 obtain ⟨ih0, ih1⟩ := spec_l23Act.mono_l k
 unfold spec_l23Act.f
 repeat' first
   | (with_reducible exact ih0 _ _ _ _ _ _ _ _ _)
   | (with_reducible exact ih1 _ _ _ _ _ _ _ _ _ _)
   | (with_reducible exact spec_l23End.mono _ _ _ _ _ _)
   | (with_reducible exact LeO.refl _)
   | (with_reducible exact LeO.none _)
   | (with_reducible refine LeO.ite ?_ ?_)
   | (with_reducible refine LeO.bind ?_ (fun _ => ?_))
   | exact ih0 _ _ _ _ _ _ _ _ _
   | exact ih1 _ _ _ _ _ _ _ _ _ _
   | exact spec_l23End.mono _ _ _ _ _ _
   | exact LeO.none _
   | refine LeO.ite ?_ ?_
   | refine LeO.bind ?_ (fun _ => ?_)
def spec_l23Act.T8 : Bool × List (List Nat × List Nat) := (true, [([], []), ([], []), ([1], [1]), ([0, 2], [0, 2]), ([], []), ([4], [4]), ([], []), ([6], [6]), ([], []), ([8], [8]), ([], []), ([10], [10]), ([9, 11], [9, 11]), ([5, 7, 12], [5, 7, 12]), ([13], [13]), ([3, 14, 3], [3, 14]), ([0, 1, 2, 3, 4, 5, 6, 7, 8, 9, 10, 11, 12, 13, 14, 15], []), ([16, 15, 15, 0, 1, 2, 3, 4, 5, 6, 7, 8, 9, 10, 11, 12, 13, 14, 15], [15, 16])])
def spec_l23Act.B8 : List Nat := [0, 0, 2, 7, 0, 16, 0, 64, 0, 256, 0, 1024, 3840, 8176, 16368, 32767, 65535, 131071]
theorem spec_l23Act.tab8 : rtab .any (opsOf Try.f26 8) = spec_l23Act.T8 := by kernel_rfl
theorem spec_l23Act.bits8 : waitsOk spec_l23Act.T8.2 spec_l23Act.B8 = true := by kernel_rfl
set_option maxHeartbeats 64000000 in
set_option maxRecDepth 100000 in
theorem spec_l23Act.calls (k : Nat) (a0_0 : Int) (a0_1 : Int) (a0_2 : Int) (P0_3_ : Nat → Prop) (u9000_ : Value) (l0_3 : List (S36)) (a1_0 : Int) (a1_1 : Int) (a1_2 : Int) (a1_3 : Int) (r1 : Int) (r2 : Int) (r3 : Int) (r4 : List (S36)) (r5 : Int) (w0 w : World) (hB : Below w0.heap.size w0 w) (ho0_3 : Kd.R k36 36 w w0.heap.size P0_3_ u9000_ l0_3) (h : spec_l23Act.f k a0_0 a0_1 a0_2 l0_3 a1_0 a1_1 a1_2 a1_3 = some (r1, r2, r3, r4, r5)) :
  Calls Try.prog 26 #[.agg #[.int .i64 a0_0, .int .i64 a0_1, .int .i64 a0_2, u9000_], .agg #[.int .i64 a1_0, .int .i64 a1_1, .int .i64 a1_2, .int .i64 a1_3]] w fun e w' => ∃ v3_ : Value, e = .returned (.tuple #[.agg #[.int .i64 r1, .int .i64 r2, .int .i64 r3, v3_], .int .i64 r5]) ∧ Kd.R k36 36 w' w0.heap.size (fun k_ => (P0_3_ k_ ∨ w.heap.size ≤ k_)) v3_ r4 ∧ Below w0.heap.size w0 w' ∧ Kept w w' (fun k_ => P0_3_ k_) := by
 have hu30 := Try.underlying30
 have hu54 := Try.underlying54
 have hu36 := Try.underlying36
 obtain ⟨HO0_3, HK, HW0, HB⟩ := zD4 (show Kd.R k36 36 w w0.heap.size (fun k_ => (P0_3_ k_ ∨ w.heap.size ≤ k_)) u9000_ l0_3 from zr ho0_3 (fun k_ hk => (.inl hk))) (Kept.refl w (fun k_ => P0_3_ k_)) hB.size hB
 clear hB
 have H : (if a1_0 = 1 then ((spec_l01In.f a1_1 1 1000000).bind fun t149 => (if t149 = true then ((spec_l01In.f a1_2 1 100000).bind fun t150 => (if t150 = true then ((spec_l01In.f a1_3 1 10000).bind fun t151 => (spec_l23Act.j0 k (!t151) a0_0 a0_1 a0_2 l0_3 a1_0 a1_1 a1_2 a1_3)) else (spec_l23Act.j0 k true a0_0 a0_1 a0_2 l0_3 a1_0 a1_1 a1_2 a1_3))) else (spec_l23Act.j0 k true a0_0 a0_1 a0_2 l0_3 a1_0 a1_1 a1_2 a1_3))) else (if a1_0 = 2 then (spec_l23Act.j1 k a1_0 (a1_0 == 2) a0_0 a0_1 a0_2 l0_3 a1_0 a1_1 a1_2 a1_3) else (spec_l23Act.j1 k a1_0 (a1_0 == 3) a0_0 a0_1 a0_2 l0_3 a1_0 a1_1 a1_2 a1_3))) = some (r1, r2, r3, r4, r5) := h
 clear h
 by_cases c3 : a1_0 = 1
 rotate_left
 ·rw [if_neg c3] at H
  have c3b0 : (a1_0 == 1) = false := beq_eq_false_iff_ne.mpr c3
  have c3b1 : (a1_0 != 1) = true := bne_iff_ne.mpr c3
  have HC60 := za H
  clear H
  obtain ⟨Ao61, co61, eo61⟩ := zaa HO0_3.out
  subst eo61
  go_enter Try.func26, Try.ntmps26
  go_upto_if 61 with (first | ((with_reducible refine gate_dst (N := 2) rfl ?_); refine box_event ?hg (N := 2) ?hd (cs := #[.int .i64 a0_0, .int .i64 a0_1, .int .i64 a0_2, .slice Ao61 l0_3.length co61]) (t := 30) ?hr ?_; (case hd => rfl); (case hg => rfl); (case hr => exact zH89); intro gb146 hg w62 hbox hb; have n_ := zA_ (za (zp zK173 hb)) (zA_ (za (Kept.below (S := (fun k_ => P0_3_ k_)) zG69 hb)) (zA_ (za (zt zG70 hb)) (zA_ (za (hbox)) (zA_ (zN1 w.heap.size hg zK130) (zN1 w0.heap.size hg (zs zG70)))))); clear HO0_3 HK HB; obtain ⟨HO0_3, HK, HB, BK146, GW146, GE146⟩ := n_; clear hb hbox hg) | ((with_reducible refine gate_dst (N := 3) rfl ?_); refine box_event ?hg (N := 3) ?hd (cs := #[.int .i64 a1_0, .int .i64 a1_1, .int .i64 a1_2, .int .i64 a1_3]) (t := 54) ?hr ?_; (case hd => rfl); (case hg => rfl); (case hr => exact zH89); intro gb147 hg w63 hbox hb; have n_ := zA_ (za (zp zK173 hb)) (zA_ (za (zq (g := gb146) (o := .cells #[.int .i64 a0_0, .int .i64 a0_1, .int .i64 a0_2, .slice Ao61 l0_3.length co61] 30 (0, 0)) zG79 hb)) (zA_ (za (Kept.below (S := (fun k_ => P0_3_ k_)) zK134 hb)) (zA_ (za (zt zK145 hb)) (zA_ (za (hbox)) (zA_ (zN1 w.heap.size hg zK125) (zA_ (zN1 w0.heap.size hg (zs zK145)) (zN2 hg (zx (g := gb146) (o := .cells #[.int .i64 a0_0, .int .i64 a0_1, .int .i64 a0_2, .slice Ao61 l0_3.length co61] 30 (0, 0)) zG79)))))))); clear HO0_3 BK146 HK HB; obtain ⟨HO0_3, BK146, HK, HB, BK147, GW147, GE147, NB146_147, NB147_146⟩ := n_; clear hb hbox hg) | ((with_reducible refine gate_dst (N := 4) rfl ?_); refine box_event ?hg (N := 4) ?hd (cs := #[.int .i64 0, .int .i64 0, .int .i64 0, .slice none 0 0]) (t := 30) ?hr ?_; (case hd => rfl); (case hg => rfl); (case hr => exact zH89); intro gb148 hg w64 hbox hb; have n_ := zA_ (za (zp zK173 hb)) (zA_ (za (zq (g := gb146) (o := .cells #[.int .i64 a0_0, .int .i64 a0_1, .int .i64 a0_2, .slice Ao61 l0_3.length co61] 30 (0, 0)) zG79 hb)) (zA_ (za (zq (g := gb147) (o := .cells #[.int .i64 a1_0, .int .i64 a1_1, .int .i64 a1_2, .int .i64 a1_3] 54 (0, 0)) zG80 hb)) (zA_ (za (Kept.below (S := (fun k_ => P0_3_ k_)) zK128 hb)) (zA_ (za (zt zK139 hb)) (zA_ (za (hbox)) (zA_ (zN1 w.heap.size hg zK124) (zA_ (zN1 w0.heap.size hg (zs zK139)) (zN3 hg (zx (g := gb146) (o := .cells #[.int .i64 a0_0, .int .i64 a0_1, .int .i64 a0_2, .slice Ao61 l0_3.length co61] 30 (0, 0)) zG79) (zN2 hg (zx (g := gb147) (o := .cells #[.int .i64 a1_0, .int .i64 a1_1, .int .i64 a1_2, .int .i64 a1_3] 54 (0, 0)) zG80)))))))))); clear HO0_3 BK146 BK147 HK HB; obtain ⟨HO0_3, BK146, BK147, HK, HB, BK148, GW148, GE148, NB146_148, NB148_146, NB147_148, NB148_147⟩ := n_; clear hb hbox hg; have hnb65 := NB147_146.out; have hnc65 := NB146_147.out; have hnb66 := NB147_148.out; have hnc66 := NB148_147.out; obtain ⟨hcz67_0, hcz67_1, hcz67_2, hcz67_3, hfz67_0, hfz67_1, hfz67_2, hfz67_3⟩ := zB4 BK147.out))
  (try simp only [Act.put, List.setIfInBounds_toArray, List.set_cons_zero, List.set_cons_succ])
  go_cut [61] (fun v61 wc => ∃ (kq : Nat) (x61_59 : Bool), v61 = .bool x61_59 ∧ Aside0 (spec_l23Act.j1 kq a1_0 x61_59 a0_0 a0_1 a0_2 l0_3 a1_0 a1_1 a1_2 a1_3 = some (r1, r2, r3, r4, r5)) ∧ Aside0 (kq ≤ k) ∧ Aside0 (Kd.R k36 36 wc w0.heap.size (fun k_ => (P0_3_ k_ ∨ w.heap.size ≤ k_)) (.slice Ao61 l0_3.length co61) l0_3) ∧ Aside0 (wc.heap[gb146]? = some (.cells #[.int .i64 a0_0, .int .i64 a0_1, .int .i64 a0_2, (.slice Ao61 l0_3.length co61)] 30 (0, 0))) ∧ Aside0 (wc.heap[gb147]? = some (.cells #[.int .i64 a1_0, .int .i64 a1_1, .int .i64 a1_2, .int .i64 a1_3] 54 (0, 0))) ∧ Aside0 (wc.heap[gb148]? = some (.cells #[.int .i64 0, .int .i64 0, .int .i64 0, (.slice none 0 0)] 30 (0, 0))) ∧ Aside0 (Kept w wc (fun k_ => P0_3_ k_)) ∧ Aside0 (Below w0.heap.size w0 wc))
  case first =>
   have H := HC60.out
   clear HC60
   by_cases c68 : a1_0 = 2
   rotate_left
   ·rw [if_neg c68] at H
    have c68b0 : (a1_0 == 2) = false := beq_eq_false_iff_ne.mpr c68
    have c68b1 : (a1_0 != 2) = true := bne_iff_ne.mpr c68
    (first | rw [c68b0] | (simp only [i64_w, i32_w]; rw [c68b0]) | skip)
    have H' := za H
    clear H
    go_wp2
    go_meet
    case rel => exact ⟨_, ((a1_0 == 3)), zG87, H', ⟨zH90⟩, ⟨zH82⟩, ⟨zH71⟩, ⟨zH72⟩, ⟨zH73⟩, ⟨zH17⟩, ⟨zH28⟩⟩
   rw [if_pos c68] at H
   have c68b0 : (a1_0 == 2) = true := beq_iff_eq.mpr c68
   have c68b1 : (a1_0 != 2) = false := bne_eq_false_iff_eq.mpr c68
   clear c68
   (first | rw [c68b0] | (simp only [i64_w, i32_w]; rw [c68b0]) | skip)
   have H' := za H
   clear H
   go_wp2
   go_meet
   case rel => exact ⟨_, ((a1_0 == 2)), zG87, H', ⟨zH90⟩, ⟨zH82⟩, ⟨zH71⟩, ⟨zH72⟩, ⟨zH73⟩, ⟨zH17⟩, ⟨zH28⟩⟩
  case rest =>
   clear HC60
   try clear c3
   try clear c3b0
   try clear c3b1
   try clear c68
   try clear c68b0
   try clear c68b1
   try clear hcz67_0
   try clear hcz67_1
   try clear hcz67_2
   try clear hcz67_3
   try clear hfz67_0
   try clear hfz67_1
   try clear hfz67_2
   try clear hfz67_3
   obtain ⟨kq, x61_59, rfl, HA, HJ59, HO_147003, BK146, BK147, BK148, HK, HB⟩ := hcut
   cases kq with
   | zero => exact absurd HA.out (by simp [spec_l23Act.j1])
   | succ kj59 =>
    have H := HA.out
    clear HA
    simp only [spec_l23Act.j1] at H
    by_cases c69 : x61_59 = true
    rotate_left
    ·replace c69 := Bool.eq_false_iff.mpr c69
     subst c69
     have H1 : (if a1_0 = 4 then ((spec_l01In.f a1_3 0 10000).bind fun t172 => (if t172 = true then ((spec_l23End.f kj59 (wrap64 (a0_0 + a1_3)) a0_1 a0_2 l0_3 0).bind fun bt173 => (some (bt173.1, wrap64 (bt173.2.1 + bt173.2.2.2.2), bt173.2.2.1, bt173.2.2.2.1, 0))) else (some (a0_0, a0_1, a0_2, l0_3, 5)))) else (some (a0_0, a0_1, a0_2, l0_3, 13))) = some (r1, r2, r3, r4, r5) := by rw [if_neg (show ¬ (false = true) by decide)] at H; exact H
     clear H
     have H := H1
     clear H1
     by_cases c122 : a1_0 = 4
     rotate_left
     ·rw [if_neg c122] at H
      have c122b0 : (a1_0 == 4) = false := beq_eq_false_iff_ne.mpr c122
      have c122b1 : (a1_0 != 4) = true := bne_iff_ne.mpr c122
      simp only [Option.some.injEq, Prod.mk.injEq] at H
      obtain ⟨rfl, rfl, rfl, rfl, rfl⟩ := H
      have hnb151 := NB146_147.out
      have hnc151 := NB147_146.out
      have hnb152 := NB146_148.out
      have hnc152 := NB148_146.out
      obtain ⟨hcz153_0, hcz153_1, hcz153_2, hcz153_3, hfz153_0, hfz153_1, hfz153_2, hfz153_3⟩ := zB4 BK146.out
      have hnb154 := NB148_147.out
      have hnc154 := NB147_148.out
      obtain ⟨hcz155_0, hcz155_1, hcz155_2, hcz155_3, hfz155_0, hfz155_1, hfz155_2, hfz155_3⟩ := zB4 BK148.out
      go_wp2
      refine bodyPost_ret (results_ct rfl _ _ gb148 30 #[.int .i64 a0_0, .int .i64 a0_1, .int .i64 a0_2, .slice Ao61 l0_3.length co61] (0, 0) _ rfl zK97 Try.underlying30 rfl zG88) rfl ?_
      exact zH0

     rw [if_pos c122] at H
     have c122b0 : (a1_0 == 4) = true := beq_iff_eq.mpr c122
     have c122b1 : (a1_0 != 4) = false := bne_eq_false_iff_eq.mpr c122
     clear c122
     replace H := Option.bind_eq_some_iff.mp H
     obtain ⟨t172, A1230, H⟩ := H
     replace H : (if t172 = true then ((spec_l23End.f kj59 (wrap64 (a0_0 + a1_3)) a0_1 a0_2 l0_3 0).bind fun bt173 => (some (bt173.1, wrap64 (bt173.2.1 + bt173.2.2.2.2), bt173.2.2.1, bt173.2.2.2.1, 0))) else (some (a0_0, a0_1, a0_2, l0_3, 5))) = some (r1, r2, r3, r4, r5) := H
     have A123 := za A1230
     clear A1230
     by_cases c124 : t172 = true
     rotate_left
     ·replace c124 := Bool.eq_false_iff.mpr c124
      subst c124
      have H1 : (some (a0_0, a0_1, a0_2, l0_3, 5)) = some (r1, r2, r3, r4, r5) := by rw [if_neg (show ¬ (false = true) by decide)] at H; exact H
      clear H
      have H := H1
      clear H1
      simp only [Option.some.injEq, Prod.mk.injEq] at H
      obtain ⟨rfl, rfl, rfl, rfl, rfl⟩ := H
      have hnb142 := NB147_146.out
      have hnc142 := NB146_147.out
      have hnb143 := NB147_148.out
      have hnc143 := NB148_147.out
      obtain ⟨hcz144_0, hcz144_1, hcz144_2, hcz144_3, hfz144_0, hfz144_1, hfz144_2, hfz144_3⟩ := zB4 BK147.out
      go_wp2_with (first | ((with_reducible refine gate_callee (f := 25) rfl ?_); refine goesL_ (some 96) rfl rfl Try.func25 zG88 rfl #[.int .i64 a1_3, .int .i64 0, .int .i64 10000] rfl zG63 ?_; (with_reducible refine (spec_l01In.calls a1_3 0 10000 false _ A123.out).mono ?_); rintro e w' ⟨rfl, ⟨nd, rfl⟩⟩; refine ⟨_, rfl, ?_⟩; (try (rw [drewN_self wc]; generalize hq_ : World.drewN wc _ = wc; have n0_ : Aside0 (Kd.R k36 36 wc w0.heap.size (fun k_ => (P0_3_ k_ ∨ w.heap.size ≤ k_)) (.slice Ao61 l0_3.length co61) l0_3) := ⟨by rw [← hq_]; exact zG84⟩; have n1_ : Aside0 (wc.heap[gb146]? = some (.cells #[.int .i64 a0_0, .int .i64 a0_1, .int .i64 a0_2, .slice Ao61 l0_3.length co61] 30 (0, 0))) := ⟨by rw [← hq_]; exact zG79⟩; have n2_ : Aside0 (wc.heap[gb147]? = some (.cells #[.int .i64 a1_0, .int .i64 a1_1, .int .i64 a1_2, .int .i64 a1_3] 54 (0, 0))) := ⟨by rw [← hq_]; exact zG80⟩; have n3_ : Aside0 (wc.heap[gb148]? = some (.cells #[.int .i64 0, .int .i64 0, .int .i64 0, .slice none 0 0] 30 (0, 0))) := ⟨by rw [← hq_]; exact zG81⟩; have n4_ : Aside0 (Kept w wc (fun k_ => P0_3_ k_)) := ⟨by rw [← hq_]; exact zG59⟩; have n5_ : Aside0 (Below w0.heap.size w0 wc) := ⟨by rw [← hq_]; exact zG60⟩; clear HO_147003 BK146 BK147 BK148 HK HB hq_; have HO_147003 := n0_; have BK146 := n1_; have BK147 := n2_; have BK148 := n3_; have HK := n4_; have HB := n5_; clear n0_ n1_ n2_ n3_ n4_ n5_)); (try have hcu145_0 : wc.cell? ⟨gb146, 0, none⟩ = some (.int .i64 a0_0) := (zc BK146.out 0).trans rfl); (try have hcu145_1 : wc.cell? ⟨gb146, 1, none⟩ = some (.int .i64 a0_1) := (zc BK146.out 1).trans rfl); (try have hcu145_2 : wc.cell? ⟨gb146, 2, none⟩ = some (.int .i64 a0_2) := (zc BK146.out 2).trans rfl); (try have hcu145_3 : wc.cell? ⟨gb146, 3, none⟩ = some (.slice Ao61 l0_3.length co61) := (zc BK146.out 3).trans rfl); (try have hfcu145_0 := ze BK146.out 0); (try have hfcu145_1 := ze BK146.out 1); (try have hfcu145_2 := ze BK146.out 2); (try have hfcu145_3 := ze BK146.out 3); (try have hcu146_0 : wc.cell? ⟨gb147, 0, none⟩ = some (.int .i64 a1_0) := (zc BK147.out 0).trans rfl); (try have hcu146_1 : wc.cell? ⟨gb147, 1, none⟩ = some (.int .i64 a1_1) := (zc BK147.out 1).trans rfl); (try have hcu146_2 : wc.cell? ⟨gb147, 2, none⟩ = some (.int .i64 a1_2) := (zc BK147.out 2).trans rfl); (try have hcu146_3 : wc.cell? ⟨gb147, 3, none⟩ = some (.int .i64 a1_3) := (zc BK147.out 3).trans rfl); (try have hfcu146_0 := ze BK147.out 0); (try have hfcu146_1 := ze BK147.out 1); (try have hfcu146_2 := ze BK147.out 2); (try have hfcu146_3 := ze BK147.out 3); (try have hcu147_0 : wc.cell? ⟨gb148, 0, none⟩ = some (.int .i64 0) := (zc BK148.out 0).trans rfl); (try have hcu147_1 : wc.cell? ⟨gb148, 1, none⟩ = some (.int .i64 0) := (zc BK148.out 1).trans rfl); (try have hcu147_2 : wc.cell? ⟨gb148, 2, none⟩ = some (.int .i64 0) := (zc BK148.out 2).trans rfl); (try have hcu147_3 : wc.cell? ⟨gb148, 3, none⟩ = some (.slice none 0 0) := (zc BK148.out 3).trans rfl); (try have hfcu147_0 := ze BK148.out 0); (try have hfcu147_1 := ze BK148.out 1); (try have hfcu147_2 := ze BK148.out 2); (try have hfcu147_3 := ze BK148.out 3); have hnb148 := NB146_148.out; have hnc148 := NB148_146.out; obtain ⟨hcz149_0, hcz149_1, hcz149_2, hcz149_3, hfz149_0, hfz149_1, hfz149_2, hfz149_3⟩ := zB4 BK146.out; obtain ⟨hcz150_0, hcz150_1, hcz150_2, hcz150_3, hfz150_0, hfz150_1, hfz150_2, hfz150_3⟩ := zB4 BK148.out))
      refine bodyPost_ret (results_ct rfl _ _ gb148 30 #[.int .i64 a0_0, .int .i64 a0_1, .int .i64 a0_2, .slice Ao61 l0_3.length co61] (0, 0) _ rfl zK97 Try.underlying30 rfl zG88) rfl ?_
      exact zH0
     subst c124
     have H1 : ((spec_l23End.f kj59 (wrap64 (a0_0 + a1_3)) a0_1 a0_2 l0_3 0).bind fun bt173 => (some (bt173.1, wrap64 (bt173.2.1 + bt173.2.2.2.2), bt173.2.2.1, bt173.2.2.2.1, 0))) = some (r1, r2, r3, r4, r5) := by rw [if_pos rfl] at H; exact H
     clear H
     have H := H1
     clear H1
     replace H := Option.bind_eq_some_iff.mp H
     obtain ⟨⟨t173, t174, t175, t176, t179⟩, A1250, H⟩ := H
     replace H : (some (t173, wrap64 (t174 + t179), t175, t176, 0)) = some (r1, r2, r3, r4, r5) := H
     have A125 := za A1250
     clear A1250
     simp only [Option.some.injEq, Prod.mk.injEq] at H
     obtain ⟨rfl, rfl, rfl, rfl, rfl⟩ := H
     have hnb126 := NB147_146.out
     have hnc126 := NB146_147.out
     have hnb127 := NB147_148.out
     have hnc127 := NB148_147.out
     obtain ⟨hcz128_0, hcz128_1, hcz128_2, hcz128_3, hfz128_0, hfz128_1, hfz128_2, hfz128_3⟩ := zB4 BK147.out
     go_wp2_with (first | ((with_reducible refine gate_callee (f := 25) rfl ?_); refine goesL_ (some 96) rfl rfl Try.func25 zG88 rfl #[.int .i64 a1_3, .int .i64 0, .int .i64 10000] rfl zG63 ?_; (with_reducible refine (spec_l01In.calls a1_3 0 10000 true _ A123.out).mono ?_); rintro e w' ⟨rfl, ⟨nd, rfl⟩⟩; refine ⟨_, rfl, ?_⟩; (try (rw [drewN_self wc]; generalize hq_ : World.drewN wc _ = wc; have n0_ : Aside0 (Kd.R k36 36 wc w0.heap.size (fun k_ => (P0_3_ k_ ∨ w.heap.size ≤ k_)) (.slice Ao61 l0_3.length co61) l0_3) := ⟨by rw [← hq_]; exact zG84⟩; have n1_ : Aside0 (wc.heap[gb146]? = some (.cells #[.int .i64 a0_0, .int .i64 a0_1, .int .i64 a0_2, .slice Ao61 l0_3.length co61] 30 (0, 0))) := ⟨by rw [← hq_]; exact zG79⟩; have n2_ : Aside0 (wc.heap[gb147]? = some (.cells #[.int .i64 a1_0, .int .i64 a1_1, .int .i64 a1_2, .int .i64 a1_3] 54 (0, 0))) := ⟨by rw [← hq_]; exact zG80⟩; have n3_ : Aside0 (wc.heap[gb148]? = some (.cells #[.int .i64 0, .int .i64 0, .int .i64 0, .slice none 0 0] 30 (0, 0))) := ⟨by rw [← hq_]; exact zG81⟩; have n4_ : Aside0 (Kept w wc (fun k_ => P0_3_ k_)) := ⟨by rw [← hq_]; exact zG59⟩; have n5_ : Aside0 (Below w0.heap.size w0 wc) := ⟨by rw [← hq_]; exact zG60⟩; clear HO_147003 BK146 BK147 BK148 HK HB hq_; have HO_147003 := n0_; have BK146 := n1_; have BK147 := n2_; have BK148 := n3_; have HK := n4_; have HB := n5_; clear n0_ n1_ n2_ n3_ n4_ n5_)); (try have hcu129_0 : wc.cell? ⟨gb146, 0, none⟩ = some (.int .i64 a0_0) := (zc BK146.out 0).trans rfl); (try have hcu129_1 : wc.cell? ⟨gb146, 1, none⟩ = some (.int .i64 a0_1) := (zc BK146.out 1).trans rfl); (try have hcu129_2 : wc.cell? ⟨gb146, 2, none⟩ = some (.int .i64 a0_2) := (zc BK146.out 2).trans rfl); (try have hcu129_3 : wc.cell? ⟨gb146, 3, none⟩ = some (.slice Ao61 l0_3.length co61) := (zc BK146.out 3).trans rfl); (try have hfcu129_0 := ze BK146.out 0); (try have hfcu129_1 := ze BK146.out 1); (try have hfcu129_2 := ze BK146.out 2); (try have hfcu129_3 := ze BK146.out 3); (try have hcu130_0 : wc.cell? ⟨gb147, 0, none⟩ = some (.int .i64 a1_0) := (zc BK147.out 0).trans rfl); (try have hcu130_1 : wc.cell? ⟨gb147, 1, none⟩ = some (.int .i64 a1_1) := (zc BK147.out 1).trans rfl); (try have hcu130_2 : wc.cell? ⟨gb147, 2, none⟩ = some (.int .i64 a1_2) := (zc BK147.out 2).trans rfl); (try have hcu130_3 : wc.cell? ⟨gb147, 3, none⟩ = some (.int .i64 a1_3) := (zc BK147.out 3).trans rfl); (try have hfcu130_0 := ze BK147.out 0); (try have hfcu130_1 := ze BK147.out 1); (try have hfcu130_2 := ze BK147.out 2); (try have hfcu130_3 := ze BK147.out 3); (try have hcu131_0 : wc.cell? ⟨gb148, 0, none⟩ = some (.int .i64 0) := (zc BK148.out 0).trans rfl); (try have hcu131_1 : wc.cell? ⟨gb148, 1, none⟩ = some (.int .i64 0) := (zc BK148.out 1).trans rfl); (try have hcu131_2 : wc.cell? ⟨gb148, 2, none⟩ = some (.int .i64 0) := (zc BK148.out 2).trans rfl); (try have hcu131_3 : wc.cell? ⟨gb148, 3, none⟩ = some (.slice none 0 0) := (zc BK148.out 3).trans rfl); (try have hfcu131_0 := ze BK148.out 0); (try have hfcu131_1 := ze BK148.out 1); (try have hfcu131_2 := ze BK148.out 2); (try have hfcu131_3 := ze BK148.out 3); have hnb132 := NB146_148.out; have hnc132 := NB148_146.out; obtain ⟨hcz133_0, hcz133_1, hcz133_2, hcz133_3, hfz133_0, hfz133_1, hfz133_2, hfz133_3⟩ := zB4 BK146.out) | ((with_reducible refine gate_callee (f := 40) rfl ?_); refine goesL_ (some 107) rfl rfl Try.func40 zG88 rfl #[.agg #[.int .i64 (wrap64 (a0_0 + a1_3)), .int .i64 a0_1, .int .i64 a0_2, .slice Ao61 l0_3.length co61], .int .i64 0] rfl zG63 ?_; (with_reducible refine (spec_l23End.calls kj59 (wrap64 (a0_0 + a1_3)) a0_1 a0_2 _ _ l0_3 0 t173 t174 t175 t176 t179 _ ?side1 ?side2 A125.out).mono ?_); (case side1 => refine (q4a (e := 36) (base := w0.heap.size) (ok := fun k_ => (P0_3_ k_ ∨ w.heap.size ≤ k_)) (n := l0_3.length) (c := co61) ?_).2.2; exact zK129); (case side2 => exact (q4a HO_147003.out).2.1); rintro e w134 ⟨v177, rfl, ho0, hb⟩; refine ⟨_, rfl, ?_⟩; have n_ := zA_ (za (zaj zK129 (zam ho0) hb)) (zA_ (za (zag (zap (zba (M := fun k_ => (P0_3_ k_ ∨ w.heap.size ≤ k_)) ho0 (show Kept w _ (fun k_ => P0_3_ k_) from by repeat (first | (with_reducible first | exact HK.out | apply Kept.alloc | apply Kept.drewN | apply Kept.drew | refine Kept.setCell ?_ (.inr GW146.out) _ | refine Kept.setCell ?_ (.inr GW147.out) _ | refine Kept.setCell ?_ (.inr GW148.out) _) | exact HK.out)).1 (fun k_ h_ => .inr h_)) (zan zK129)) (zs zG60))) (zA_ (za (zq (g := gb146) (o := .cells #[.int .i64 (wrap64 (a0_0 + a1_3)), .int .i64 a0_1, .int .i64 a0_2, .slice Ao61 l0_3.length co61] 30 (0, 0)) (by (with_reducible repeat (first | refine zd ?_ _ | refine zg ?_ | refine zb ?_ _)); refine zu (cs := #[.int .i64 a0_0, .int .i64 a0_1, .int .i64 a0_2, .slice Ao61 l0_3.length co61]) ?_ 0 _ rfl; (with_reducible repeat (first | refine zd ?_ _ | refine zg ?_ | refine zb ?_ _)); exact BK146.out) hb)) (zA_ (za (zq (g := gb147) (o := .cells #[.int .i64 a1_0, .int .i64 a1_1, .int .i64 a1_2, .int .i64 a1_3] 54 (0, 0)) (by (with_reducible repeat (first | refine zd ?_ _ | refine zg ?_ | refine zb ?_ _)); refine zv ?_ NB147_146.out _; (with_reducible repeat (first | refine zd ?_ _ | refine zg ?_ | refine zb ?_ _)); exact BK147.out) hb)) (zA_ (za (zq (g := gb148) (o := .cells #[.int .i64 0, .int .i64 0, .int .i64 0, .slice none 0 0] 30 (0, 0)) (by (with_reducible repeat (first | refine zd ?_ _ | refine zg ?_ | refine zb ?_ _)); refine zv ?_ NB148_146.out _; (with_reducible repeat (first | refine zd ?_ _ | refine zg ?_ | refine zb ?_ _)); exact BK148.out) hb)) (zA_ (za (Kept.below (S := (fun k_ => P0_3_ k_)) zG59 hb)) (za (zt zG60 hb))))))); clear HO_147003 BK146 BK147 BK148 HK HB; obtain ⟨HO_147003, HO178, BK146, BK147, BK148, HK, HB⟩ := n_; (try clear hb); (try clear hk); (try clear ho0)) | ((with_reducible refine gate_dst (N := 8) rfl ?_); refine box_event ?hg (N := 8) ?hd (cs := #[.int .i64 0, .int .i64 0, .int .i64 0, .slice none 0 0]) (t := 30) ?hr ?_; (case hd => rfl); (case hg => rfl); (case hr => exact zH89); intro gb180 hg w135 hbox hb; have n_ := zA_ (za (zp zG84 hb)) (zA_ (za (zp (by (with_reducible repeat (first | apply zm | apply zl | apply zn)); exact HO178.out) hb)) (zA_ (za (zq (g := gb146) (o := .cells #[.int .i64 (wrap64 (a0_0 + a1_3)), .int .i64 a0_1, .int .i64 a0_2, .slice Ao61 l0_3.length co61] 30 (0, 0)) zG79 hb)) (zA_ (za (zq (g := gb147) (o := .cells #[.int .i64 a1_0, .int .i64 a1_1, .int .i64 a1_2, .int .i64 a1_3] 54 (0, 0)) zG80 hb)) (zA_ (za (zq (g := gb148) (o := .cells #[.int .i64 0, .int .i64 0, .int .i64 0, .slice none 0 0] 30 (0, 0)) zG81 hb)) (zA_ (za (Kept.below (S := (fun k_ => P0_3_ k_)) zG59 hb)) (zA_ (za (zt zG60 hb)) (zA_ (za (hbox)) (zA_ (zN1 w.heap.size hg zG58) (zA_ (zN1 w0.heap.size hg (zs zG60)) (zN3 hg (zx (g := gb146) (o := .cells #[.int .i64 (wrap64 (a0_0 + a1_3)), .int .i64 a0_1, .int .i64 a0_2, .slice Ao61 l0_3.length co61] 30 (0, 0)) zG79) (zN3 hg (zx (g := gb147) (o := .cells #[.int .i64 a1_0, .int .i64 a1_1, .int .i64 a1_2, .int .i64 a1_3] 54 (0, 0)) zG80) (zN2 hg (zx (g := gb148) (o := .cells #[.int .i64 0, .int .i64 0, .int .i64 0, .slice none 0 0] 30 (0, 0)) zG81))))))))))))); clear HO_147003 HO178 BK146 BK147 BK148 HK HB; obtain ⟨HO_147003, HO178, BK146, BK147, BK148, HK, HB, BK180, GW180, GE180, NB146_180, NB180_146, NB147_180, NB180_147, NB148_180, NB180_148⟩ := n_; clear hb hbox hg; have hnb136 := NB180_146.out; have hnc136 := NB146_180.out; have hnb137 := NB180_147.out; have hnc137 := NB147_180.out; have hnb138 := NB180_148.out; have hnc138 := NB148_180.out; obtain ⟨hcz139_0, hcz139_1, hcz139_2, hcz139_3, hfz139_0, hfz139_1, hfz139_2, hfz139_3⟩ := zB4 BK180.out; have hu139_0 : ∀ v0 : Value, World.cell? (World.setCell w135 ⟨gb180, 0, none⟩ v0) ⟨gb180, 0, none⟩ = some v0 := fun v0 => World.cell?_setCell_same' _ _ _ (by simp [World.cell?_setCell_other, hcz139_0]); have hu139_1 : ∀ v0 v1 : Value, World.cell? (World.setCell (World.setCell w135 ⟨gb180, 0, none⟩ v0) ⟨gb180, 1, none⟩ v1) ⟨gb180, 1, none⟩ = some v1 := fun v0 v1 => World.cell?_setCell_same' _ _ _ (by simp [World.cell?_setCell_other, hcz139_1]); have hu139_2 : ∀ v0 v1 v2 : Value, World.cell? (World.setCell (World.setCell (World.setCell w135 ⟨gb180, 0, none⟩ v0) ⟨gb180, 1, none⟩ v1) ⟨gb180, 2, none⟩ v2) ⟨gb180, 2, none⟩ = some v2 := fun v0 v1 v2 => World.cell?_setCell_same' _ _ _ (by simp [World.cell?_setCell_other, hcz139_2]); have hu139_3 : ∀ v0 v1 v2 v3 : Value, World.cell? (World.setCell (World.setCell (World.setCell (World.setCell w135 ⟨gb180, 0, none⟩ v0) ⟨gb180, 1, none⟩ v1) ⟨gb180, 2, none⟩ v2) ⟨gb180, 3, none⟩ v3) ⟨gb180, 3, none⟩ = some v3 := fun v0 v1 v2 v3 => World.cell?_setCell_same' _ _ _ (by simp [World.cell?_setCell_other, hcz139_3]); obtain ⟨Ao140, co140, eo140⟩ := zaa HO178.out; subst eo140; obtain ⟨hcz141_0, hcz141_1, hcz141_2, hcz141_3, hfz141_0, hfz141_1, hfz141_2, hfz141_3⟩ := zB4 BK148.out))
     refine bodyPost_ret (results_ct rfl _ _ gb148 30 #[.int .i64 t173, .int .i64 (wrap64 (t174 + t179)), .int .i64 t175, .slice Ao140 t176.length co140] (0, 0) _ rfl (by (with_reducible repeat (first | refine zd ?_ _ | refine zg ?_ | refine zb ?_ _)); refine zu (cs := #[.int .i64 t173, .int .i64 (wrap64 (t174 + t179)), .int .i64 t175, .slice none 0 0]) ?_ 3 _ rfl; (with_reducible repeat (first | refine zd ?_ _ | refine zg ?_ | refine zb ?_ _)); refine zu (cs := #[.int .i64 t173, .int .i64 (wrap64 (t174 + t179)), .int .i64 0, .slice none 0 0]) ?_ 2 _ rfl; (with_reducible repeat (first | refine zd ?_ _ | refine zg ?_ | refine zb ?_ _)); refine zu (cs := #[.int .i64 t173, .int .i64 0, .int .i64 0, .slice none 0 0]) ?_ 1 _ rfl; (with_reducible repeat (first | refine zd ?_ _ | refine zg ?_ | refine zb ?_ _)); refine zu (cs := #[.int .i64 0, .int .i64 0, .int .i64 0, .slice none 0 0]) ?_ 0 _ rfl; (with_reducible repeat (first | refine zd ?_ _ | refine zg ?_ | refine zb ?_ _)); refine zv ?_ NB148_180.out _; (with_reducible repeat (first | refine zd ?_ _ | refine zg ?_ | refine zb ?_ _)); refine zv ?_ NB148_180.out _; (with_reducible repeat (first | refine zd ?_ _ | refine zg ?_ | refine zb ?_ _)); refine zv ?_ NB148_180.out _; (with_reducible repeat (first | refine zd ?_ _ | refine zg ?_ | refine zb ?_ _)); refine zv ?_ NB148_180.out _; (with_reducible repeat (first | refine zd ?_ _ | refine zg ?_ | refine zb ?_ _)); refine zv ?_ NB148_180.out _; (with_reducible repeat (first | refine zd ?_ _ | refine zg ?_ | refine zb ?_ _)); exact BK148.out) Try.underlying30 rfl zG88) rfl ?_
     exact ⟨_, zH78, by (with_reducible repeat (first | apply zm | apply zl | apply zn)); exact zr (zo (p := ⟨gb148, 3, none⟩) (zo (p := ⟨gb148, 2, none⟩) (zo (p := ⟨gb148, 1, none⟩) (zo (p := ⟨gb148, 0, none⟩) (zo (p := ⟨gb180, 1, none⟩) (zo (p := ⟨gb180, 3, none⟩) (zo (p := ⟨gb180, 2, none⟩) (zo (p := ⟨gb180, 1, none⟩) (zo (p := ⟨gb180, 0, none⟩) (zw (zw HO178.out BK180.out zG89) BK148.out zG89) (fun _ hk => hk.1.2) (.int .i64 t173)) (fun _ hk => hk.1.2) (.int .i64 t174)) (fun _ hk => hk.1.2) (.int .i64 t175)) (fun _ hk => hk.1.2) (.slice Ao140 t176.length co140)) (fun _ hk => hk.1.2) (.int .i64 (wrap64 (t174 + t179)))) (fun _ hk => hk.2) (.int .i64 t173)) (fun _ hk => hk.2) (.int .i64 (wrap64 (t174 + t179)))) (fun _ hk => hk.2) (.int .i64 t175)) (fun _ hk => hk.2) (.slice Ao140 t176.length co140)) (fun _ hk => hk.1.1.1.1), by repeat (first | (with_reducible first | exact HB.out | apply zk | apply zf | apply zi | refine zh ?_ GE146.out | refine zh ?_ GE147.out | refine zh ?_ GE148.out | refine zh ?_ GE180.out) | exact HB.out), by repeat (first | (with_reducible first | exact HK.out | apply Kept.alloc | apply Kept.drewN | apply Kept.drew | refine Kept.setCell ?_ (.inr GW146.out) _ | refine Kept.setCell ?_ (.inr GW147.out) _ | refine Kept.setCell ?_ (.inr GW148.out) _ | refine Kept.setCell ?_ (.inr GW180.out) _) | exact HK.out)⟩
    subst c69
    have H1 : (if a1_1 < 1 then (some (a0_0, a0_1, a0_2, l0_3, 5)) else ((spec_l23End.f kj59 a0_0 a0_1 a0_2 l0_3 a1_1).bind fun bt164 => (if bt164.2.2.2.2 = 0 then (some (a0_0, a0_1, a0_2, l0_3, 8)) else (if a1_0 = 2 then (some (bt164.1, bt164.2.1, wrap64 (bt164.2.2.1 + bt164.2.2.2.2), bt164.2.2.2.1, 0)) else (some (bt164.1, wrap64 (bt164.2.1 + bt164.2.2.2.2), bt164.2.2.1, bt164.2.2.2.1, 0)))))) = some (r1, r2, r3, r4, r5) := by rw [if_pos rfl] at H; exact H
    clear H
    have H := H1
    clear H1
    by_cases c70 : a1_1 < 1
    ·rw [if_pos c70] at H
     have c70b0 := decide_eq_true c70
     clear c70
     simp only [Option.some.injEq, Prod.mk.injEq] at H
     obtain ⟨rfl, rfl, rfl, rfl, rfl⟩ := H
     have hnb71 := NB147_146.out
     have hnc71 := NB146_147.out
     have hnb72 := NB147_148.out
     have hnc72 := NB148_147.out
     obtain ⟨hcz73_0, hcz73_1, hcz73_2, hcz73_3, hfz73_0, hfz73_1, hfz73_2, hfz73_3⟩ := zB4 BK147.out
     have hnb74 := NB146_148.out
     have hnc74 := NB148_146.out
     obtain ⟨hcz75_0, hcz75_1, hcz75_2, hcz75_3, hfz75_0, hfz75_1, hfz75_2, hfz75_3⟩ := zB4 BK146.out
     obtain ⟨hcz76_0, hcz76_1, hcz76_2, hcz76_3, hfz76_0, hfz76_1, hfz76_2, hfz76_3⟩ := zB4 BK148.out
     go_wp2
     refine bodyPost_ret (results_ct rfl _ _ gb148 30 #[.int .i64 a0_0, .int .i64 a0_1, .int .i64 a0_2, .slice Ao61 l0_3.length co61] (0, 0) _ rfl zK97 Try.underlying30 rfl zG88) rfl ?_
     exact zH0
    rw [if_neg c70] at H
    have c70b0 := decide_eq_false c70
    clear c70
    replace H := Option.bind_eq_some_iff.mp H
    obtain ⟨⟨t164, t165, t166, t167, t170⟩, A770, H⟩ := H
    replace H : (if t170 = 0 then (some (a0_0, a0_1, a0_2, l0_3, 8)) else (if a1_0 = 2 then (some (t164, t165, wrap64 (t166 + t170), t167, 0)) else (some (t164, wrap64 (t165 + t170), t166, t167, 0)))) = some (r1, r2, r3, r4, r5) := H
    have A77 := za A770
    clear A770
    by_cases c78 : t170 = 0
    ·rw [if_pos c78] at H
     have c78b0 : (t170 == 0) = true := beq_iff_eq.mpr c78
     have c78b1 : (t170 != 0) = false := bne_eq_false_iff_eq.mpr c78
     clear c78
     simp only [Option.some.injEq, Prod.mk.injEq] at H
     obtain ⟨rfl, rfl, rfl, rfl, rfl⟩ := H
     have hnb79 := NB147_146.out
     have hnc79 := NB146_147.out
     have hnb80 := NB147_148.out
     have hnc80 := NB148_147.out
     obtain ⟨hcz81_0, hcz81_1, hcz81_2, hcz81_3, hfz81_0, hfz81_1, hfz81_2, hfz81_3⟩ := zB4 BK147.out
     have hnb82 := NB146_148.out
     have hnc82 := NB148_146.out
     obtain ⟨hcz83_0, hcz83_1, hcz83_2, hcz83_3, hfz83_0, hfz83_1, hfz83_2, hfz83_3⟩ := zB4 BK146.out
     go_wp2_with (first | ((with_reducible refine gate_callee (f := 40) rfl ?_); refine goesL_ (some 72) rfl rfl Try.func40 zG88 rfl #[.agg #[.int .i64 a0_0, .int .i64 a0_1, .int .i64 a0_2, .slice Ao61 l0_3.length co61], .int .i64 a1_1] rfl zG63 ?_; (with_reducible refine (spec_l23End.calls kj59 a0_0 a0_1 a0_2 _ _ l0_3 a1_1 t164 t165 t166 t167 t170 _ ?side1 ?side2 A77.out).mono ?_); (case side1 => exact zH46); (case side2 => exact (q4a HO_147003.out).2.1); rintro e w84 ⟨v168, rfl, ho0, hb⟩; refine ⟨_, rfl, ?_⟩; have n_ := zA_ (za (zaj zG84 (zam ho0) hb)) (zA_ (za (zag (zap (zba (M := fun k_ => (P0_3_ k_ ∨ w.heap.size ≤ k_)) ho0 zG58 (fun k_ h_ => .inr h_)) (zan zG84)) (zs zG60))) (zA_ (za (zq (g := gb146) (o := .cells #[.int .i64 a0_0, .int .i64 a0_1, .int .i64 a0_2, .slice Ao61 l0_3.length co61] 30 (0, 0)) zG79 hb)) (zA_ (za (zq (g := gb147) (o := .cells #[.int .i64 a1_0, .int .i64 a1_1, .int .i64 a1_2, .int .i64 a1_3] 54 (0, 0)) zG80 hb)) (zA_ (za (zq (g := gb148) (o := .cells #[.int .i64 0, .int .i64 0, .int .i64 0, .slice none 0 0] 30 (0, 0)) zG81 hb)) (zA_ (za (Kept.below (S := (fun k_ => P0_3_ k_)) zG59 hb)) (za (zt zG60 hb))))))); clear HO_147003 BK146 BK147 BK148 HK HB; obtain ⟨HO_147003, HO169, BK146, BK147, BK148, HK, HB⟩ := n_; (try clear hb); (try clear ho0)) | ((with_reducible refine gate_dst (N := 6) rfl ?_); refine box_event ?hg (N := 6) ?hd (cs := #[.int .i64 0, .int .i64 0, .int .i64 0, .slice none 0 0]) (t := 30) ?hr ?_; (case hd => rfl); (case hg => rfl); (case hr => exact zH89); intro gb171 hg w85 hbox hb; have n_ := zA_ (za (zp zG84 hb)) (zA_ (za (zp zK174 hb)) (zA_ (za (zq (g := gb146) (o := .cells #[.int .i64 a0_0, .int .i64 a0_1, .int .i64 a0_2, .slice Ao61 l0_3.length co61] 30 (0, 0)) zG79 hb)) (zA_ (za (zq (g := gb147) (o := .cells #[.int .i64 a1_0, .int .i64 a1_1, .int .i64 a1_2, .int .i64 a1_3] 54 (0, 0)) zG80 hb)) (zA_ (za (zq (g := gb148) (o := .cells #[.int .i64 0, .int .i64 0, .int .i64 0, .slice none 0 0] 30 (0, 0)) zG81 hb)) (zA_ (za (Kept.below (S := (fun k_ => P0_3_ k_)) zG59 hb)) (zA_ (za (zt zG60 hb)) (zA_ (za (hbox)) (zA_ (zN1 w.heap.size hg zG58) (zA_ (zN1 w0.heap.size hg (zs zG60)) (zN3 hg (zx (g := gb146) (o := .cells #[.int .i64 a0_0, .int .i64 a0_1, .int .i64 a0_2, .slice Ao61 l0_3.length co61] 30 (0, 0)) zG79) (zN3 hg (zx (g := gb147) (o := .cells #[.int .i64 a1_0, .int .i64 a1_1, .int .i64 a1_2, .int .i64 a1_3] 54 (0, 0)) zG80) (zN2 hg (zx (g := gb148) (o := .cells #[.int .i64 0, .int .i64 0, .int .i64 0, .slice none 0 0] 30 (0, 0)) zG81))))))))))))); clear HO_147003 HO169 BK146 BK147 BK148 HK HB; obtain ⟨HO_147003, HO169, BK146, BK147, BK148, HK, HB, BK171, GW171, GE171, NB146_171, NB171_146, NB147_171, NB171_147, NB148_171, NB171_148⟩ := n_; clear hb hbox hg; have hnb86 := NB171_146.out; have hnc86 := NB146_171.out; have hnb87 := NB171_147.out; have hnc87 := NB147_171.out; have hnb88 := NB171_148.out; have hnc88 := NB148_171.out; obtain ⟨hcz89_0, hcz89_1, hcz89_2, hcz89_3, hfz89_0, hfz89_1, hfz89_2, hfz89_3⟩ := zB4 BK171.out; have hu89_0 : ∀ v0 : Value, World.cell? (World.setCell w85 ⟨gb171, 0, none⟩ v0) ⟨gb171, 0, none⟩ = some v0 := fun v0 => World.cell?_setCell_same' _ _ _ (by simp [World.cell?_setCell_other, hcz89_0]); have hu89_1 : ∀ v0 v1 : Value, World.cell? (World.setCell (World.setCell w85 ⟨gb171, 0, none⟩ v0) ⟨gb171, 1, none⟩ v1) ⟨gb171, 1, none⟩ = some v1 := fun v0 v1 => World.cell?_setCell_same' _ _ _ (by simp [World.cell?_setCell_other, hcz89_1]); have hu89_2 : ∀ v0 v1 v2 : Value, World.cell? (World.setCell (World.setCell (World.setCell w85 ⟨gb171, 0, none⟩ v0) ⟨gb171, 1, none⟩ v1) ⟨gb171, 2, none⟩ v2) ⟨gb171, 2, none⟩ = some v2 := fun v0 v1 v2 => World.cell?_setCell_same' _ _ _ (by simp [World.cell?_setCell_other, hcz89_2]); have hu89_3 : ∀ v0 v1 v2 v3 : Value, World.cell? (World.setCell (World.setCell (World.setCell (World.setCell w85 ⟨gb171, 0, none⟩ v0) ⟨gb171, 1, none⟩ v1) ⟨gb171, 2, none⟩ v2) ⟨gb171, 3, none⟩ v3) ⟨gb171, 3, none⟩ = some v3 := fun v0 v1 v2 v3 => World.cell?_setCell_same' _ _ _ (by simp [World.cell?_setCell_other, hcz89_3]); obtain ⟨Ao90, co90, eo90⟩ := zaa HO169.out; subst eo90; obtain ⟨hcz91_0, hcz91_1, hcz91_2, hcz91_3, hfz91_0, hfz91_1, hfz91_2, hfz91_3⟩ := zB4 BK146.out; obtain ⟨hcz92_0, hcz92_1, hcz92_2, hcz92_3, hfz92_0, hfz92_1, hfz92_2, hfz92_3⟩ := zB4 BK148.out))
     refine bodyPost_ret (results_ct rfl _ _ gb148 30 #[.int .i64 a0_0, .int .i64 a0_1, .int .i64 a0_2, .slice Ao61 l0_3.length co61] (0, 0) _ rfl (by (with_reducible repeat (first | refine zd ?_ _ | refine zg ?_ | refine zb ?_ _)); refine zu (cs := #[.int .i64 a0_0, .int .i64 a0_1, .int .i64 a0_2, .slice none 0 0]) ?_ 3 _ rfl; (with_reducible repeat (first | refine zd ?_ _ | refine zg ?_ | refine zb ?_ _)); refine zu (cs := #[.int .i64 a0_0, .int .i64 a0_1, .int .i64 0, .slice none 0 0]) ?_ 2 _ rfl; (with_reducible repeat (first | refine zd ?_ _ | refine zg ?_ | refine zb ?_ _)); refine zu (cs := #[.int .i64 a0_0, .int .i64 0, .int .i64 0, .slice none 0 0]) ?_ 1 _ rfl; (with_reducible repeat (first | refine zd ?_ _ | refine zg ?_ | refine zb ?_ _)); refine zu (cs := #[.int .i64 0, .int .i64 0, .int .i64 0, .slice none 0 0]) ?_ 0 _ rfl; (with_reducible repeat (first | refine zd ?_ _ | refine zg ?_ | refine zb ?_ _)); refine zv ?_ NB148_171.out _; (with_reducible repeat (first | refine zd ?_ _ | refine zg ?_ | refine zb ?_ _)); refine zv ?_ NB148_171.out _; (with_reducible repeat (first | refine zd ?_ _ | refine zg ?_ | refine zb ?_ _)); refine zv ?_ NB148_171.out _; (with_reducible repeat (first | refine zd ?_ _ | refine zg ?_ | refine zb ?_ _)); refine zv ?_ NB148_171.out _; (with_reducible repeat (first | refine zd ?_ _ | refine zg ?_ | refine zb ?_ _)); exact BK148.out) Try.underlying30 rfl zG88) rfl ?_
     exact ⟨_, zH78, by (with_reducible repeat (first | apply zm | apply zl | apply zn)); exact zr (zo (p := ⟨gb148, 3, none⟩) (zo (p := ⟨gb148, 2, none⟩) (zo (p := ⟨gb148, 1, none⟩) (zo (p := ⟨gb148, 0, none⟩) (zo (p := ⟨gb171, 3, none⟩) (zo (p := ⟨gb171, 2, none⟩) (zo (p := ⟨gb171, 1, none⟩) (zo (p := ⟨gb171, 0, none⟩) (zw (zw HO_147003.out BK171.out zG89) BK148.out zG89) (fun _ hk => hk.1.2) (.int .i64 t164)) (fun _ hk => hk.1.2) (.int .i64 t165)) (fun _ hk => hk.1.2) (.int .i64 t166)) (fun _ hk => hk.1.2) (.slice Ao90 t167.length co90)) (fun _ hk => hk.2) (.int .i64 a0_0)) (fun _ hk => hk.2) (.int .i64 a0_1)) (fun _ hk => hk.2) (.int .i64 a0_2)) (fun _ hk => hk.2) (.slice Ao61 l0_3.length co61)) (fun _ hk => hk.1.1.1), zH22, zH10⟩
    rw [if_neg c78] at H
    have c78b0 : (t170 == 0) = false := beq_eq_false_iff_ne.mpr c78
    have c78b1 : (t170 != 0) = true := bne_iff_ne.mpr c78
    by_cases c93 : a1_0 = 2
    rotate_left
    ·rw [if_neg c93] at H
     have c93b0 : (a1_0 == 2) = false := beq_eq_false_iff_ne.mpr c93
     have c93b1 : (a1_0 != 2) = true := bne_iff_ne.mpr c93
     simp only [Option.some.injEq, Prod.mk.injEq] at H
     obtain ⟨rfl, rfl, rfl, rfl, rfl⟩ := H
     have hnb108 := NB147_146.out
     have hnc108 := NB146_147.out
     have hnb109 := NB147_148.out
     have hnc109 := NB148_147.out
     obtain ⟨hcz110_0, hcz110_1, hcz110_2, hcz110_3, hfz110_0, hfz110_1, hfz110_2, hfz110_3⟩ := zB4 BK147.out
     have hnb111 := NB146_148.out
     have hnc111 := NB148_146.out
     obtain ⟨hcz112_0, hcz112_1, hcz112_2, hcz112_3, hfz112_0, hfz112_1, hfz112_2, hfz112_3⟩ := zB4 BK146.out
     go_wp2_with (first | ((with_reducible refine gate_callee (f := 40) rfl ?_); refine goesL_ (some 72) rfl rfl Try.func40 zG88 rfl #[.agg #[.int .i64 a0_0, .int .i64 a0_1, .int .i64 a0_2, .slice Ao61 l0_3.length co61], .int .i64 a1_1] rfl zG63 ?_; (with_reducible refine (spec_l23End.calls kj59 a0_0 a0_1 a0_2 _ _ l0_3 a1_1 t164 t165 t166 t167 t170 _ ?side1 ?side2 A77.out).mono ?_); (case side1 => exact zH46); (case side2 => exact (q4a HO_147003.out).2.1); rintro e w113 ⟨v168, rfl, ho0, hb⟩; refine ⟨_, rfl, ?_⟩; have n_ := zA_ (za (zaj zG84 (zam ho0) hb)) (zA_ (za (zag (zap (zba (M := fun k_ => (P0_3_ k_ ∨ w.heap.size ≤ k_)) ho0 zG58 (fun k_ h_ => .inr h_)) (zan zG84)) (zs zG60))) (zA_ (za (zq (g := gb146) (o := .cells #[.int .i64 a0_0, .int .i64 a0_1, .int .i64 a0_2, .slice Ao61 l0_3.length co61] 30 (0, 0)) zG79 hb)) (zA_ (za (zq (g := gb147) (o := .cells #[.int .i64 a1_0, .int .i64 a1_1, .int .i64 a1_2, .int .i64 a1_3] 54 (0, 0)) zG80 hb)) (zA_ (za (zq (g := gb148) (o := .cells #[.int .i64 0, .int .i64 0, .int .i64 0, .slice none 0 0] 30 (0, 0)) zG81 hb)) (zA_ (za (Kept.below (S := (fun k_ => P0_3_ k_)) zG59 hb)) (za (zt zG60 hb))))))); clear HO_147003 BK146 BK147 BK148 HK HB; obtain ⟨HO_147003, HO169, BK146, BK147, BK148, HK, HB⟩ := n_; (try clear hb); (try clear ho0)) | ((with_reducible refine gate_dst (N := 6) rfl ?_); refine box_event ?hg (N := 6) ?hd (cs := #[.int .i64 0, .int .i64 0, .int .i64 0, .slice none 0 0]) (t := 30) ?hr ?_; (case hd => rfl); (case hg => rfl); (case hr => exact zH89); intro gb171 hg w114 hbox hb; have n_ := zA_ (za (zp zG84 hb)) (zA_ (za (zp zK174 hb)) (zA_ (za (zq (g := gb146) (o := .cells #[.int .i64 a0_0, .int .i64 a0_1, .int .i64 a0_2, .slice Ao61 l0_3.length co61] 30 (0, 0)) zG79 hb)) (zA_ (za (zq (g := gb147) (o := .cells #[.int .i64 a1_0, .int .i64 a1_1, .int .i64 a1_2, .int .i64 a1_3] 54 (0, 0)) zG80 hb)) (zA_ (za (zq (g := gb148) (o := .cells #[.int .i64 0, .int .i64 0, .int .i64 0, .slice none 0 0] 30 (0, 0)) zG81 hb)) (zA_ (za (Kept.below (S := (fun k_ => P0_3_ k_)) zG59 hb)) (zA_ (za (zt zG60 hb)) (zA_ (za (hbox)) (zA_ (zN1 w.heap.size hg zG58) (zA_ (zN1 w0.heap.size hg (zs zG60)) (zN3 hg (zx (g := gb146) (o := .cells #[.int .i64 a0_0, .int .i64 a0_1, .int .i64 a0_2, .slice Ao61 l0_3.length co61] 30 (0, 0)) zG79) (zN3 hg (zx (g := gb147) (o := .cells #[.int .i64 a1_0, .int .i64 a1_1, .int .i64 a1_2, .int .i64 a1_3] 54 (0, 0)) zG80) (zN2 hg (zx (g := gb148) (o := .cells #[.int .i64 0, .int .i64 0, .int .i64 0, .slice none 0 0] 30 (0, 0)) zG81))))))))))))); clear HO_147003 HO169 BK146 BK147 BK148 HK HB; obtain ⟨HO_147003, HO169, BK146, BK147, BK148, HK, HB, BK171, GW171, GE171, NB146_171, NB171_146, NB147_171, NB171_147, NB148_171, NB171_148⟩ := n_; clear hb hbox hg; have hnb115 := NB171_146.out; have hnc115 := NB146_171.out; have hnb116 := NB171_147.out; have hnc116 := NB147_171.out; have hnb117 := NB171_148.out; have hnc117 := NB148_171.out; obtain ⟨hcz118_0, hcz118_1, hcz118_2, hcz118_3, hfz118_0, hfz118_1, hfz118_2, hfz118_3⟩ := zB4 BK171.out; have hu118_0 : ∀ v0 : Value, World.cell? (World.setCell w114 ⟨gb171, 0, none⟩ v0) ⟨gb171, 0, none⟩ = some v0 := fun v0 => World.cell?_setCell_same' _ _ _ (by simp [World.cell?_setCell_other, hcz118_0]); have hu118_1 : ∀ v0 v1 : Value, World.cell? (World.setCell (World.setCell w114 ⟨gb171, 0, none⟩ v0) ⟨gb171, 1, none⟩ v1) ⟨gb171, 1, none⟩ = some v1 := fun v0 v1 => World.cell?_setCell_same' _ _ _ (by simp [World.cell?_setCell_other, hcz118_1]); have hu118_2 : ∀ v0 v1 v2 : Value, World.cell? (World.setCell (World.setCell (World.setCell w114 ⟨gb171, 0, none⟩ v0) ⟨gb171, 1, none⟩ v1) ⟨gb171, 2, none⟩ v2) ⟨gb171, 2, none⟩ = some v2 := fun v0 v1 v2 => World.cell?_setCell_same' _ _ _ (by simp [World.cell?_setCell_other, hcz118_2]); have hu118_3 : ∀ v0 v1 v2 v3 : Value, World.cell? (World.setCell (World.setCell (World.setCell (World.setCell w114 ⟨gb171, 0, none⟩ v0) ⟨gb171, 1, none⟩ v1) ⟨gb171, 2, none⟩ v2) ⟨gb171, 3, none⟩ v3) ⟨gb171, 3, none⟩ = some v3 := fun v0 v1 v2 v3 => World.cell?_setCell_same' _ _ _ (by simp [World.cell?_setCell_other, hcz118_3]); obtain ⟨Ao119, co119, eo119⟩ := zaa HO169.out; subst eo119; obtain ⟨hcz120_0, hcz120_1, hcz120_2, hcz120_3, hfz120_0, hfz120_1, hfz120_2, hfz120_3⟩ := zB4 BK147.out; obtain ⟨hcz121_0, hcz121_1, hcz121_2, hcz121_3, hfz121_0, hfz121_1, hfz121_2, hfz121_3⟩ := zB4 BK148.out))
     refine bodyPost_ret (results_ct rfl _ _ gb148 30 #[.int .i64 t164, .int .i64 (wrap64 (t165 + t170)), .int .i64 t166, .slice Ao119 t167.length co119] (0, 0) _ rfl (by (with_reducible repeat (first | refine zd ?_ _ | refine zg ?_ | refine zb ?_ _)); refine zu (cs := #[.int .i64 t164, .int .i64 (wrap64 (t165 + t170)), .int .i64 t166, .slice none 0 0]) ?_ 3 _ rfl; (with_reducible repeat (first | refine zd ?_ _ | refine zg ?_ | refine zb ?_ _)); refine zu (cs := #[.int .i64 t164, .int .i64 (wrap64 (t165 + t170)), .int .i64 0, .slice none 0 0]) ?_ 2 _ rfl; (with_reducible repeat (first | refine zd ?_ _ | refine zg ?_ | refine zb ?_ _)); refine zu (cs := #[.int .i64 t164, .int .i64 0, .int .i64 0, .slice none 0 0]) ?_ 1 _ rfl; (with_reducible repeat (first | refine zd ?_ _ | refine zg ?_ | refine zb ?_ _)); refine zu (cs := #[.int .i64 0, .int .i64 0, .int .i64 0, .slice none 0 0]) ?_ 0 _ rfl; (with_reducible repeat (first | refine zd ?_ _ | refine zg ?_ | refine zb ?_ _)); refine zv ?_ NB148_171.out _; (with_reducible repeat (first | refine zd ?_ _ | refine zg ?_ | refine zb ?_ _)); refine zv ?_ NB148_171.out _; (with_reducible repeat (first | refine zd ?_ _ | refine zg ?_ | refine zb ?_ _)); refine zv ?_ NB148_171.out _; (with_reducible repeat (first | refine zd ?_ _ | refine zg ?_ | refine zb ?_ _)); refine zv ?_ NB148_171.out _; (with_reducible repeat (first | refine zd ?_ _ | refine zg ?_ | refine zb ?_ _)); refine zv ?_ NB148_171.out _; (with_reducible repeat (first | refine zd ?_ _ | refine zg ?_ | refine zb ?_ _)); exact BK148.out) Try.underlying30 rfl zG88) rfl ?_
     exact ⟨_, zH78, by (with_reducible repeat (first | apply zm | apply zl | apply zn)); exact zr (zo (p := ⟨gb148, 3, none⟩) (zo (p := ⟨gb148, 2, none⟩) (zo (p := ⟨gb148, 1, none⟩) (zo (p := ⟨gb148, 0, none⟩) (zo (p := ⟨gb171, 1, none⟩) (zo (p := ⟨gb171, 3, none⟩) (zo (p := ⟨gb171, 2, none⟩) (zo (p := ⟨gb171, 1, none⟩) (zo (p := ⟨gb171, 0, none⟩) (zw (zw HO169.out BK171.out zG89) BK148.out zG89) (fun _ hk => hk.1.2) (.int .i64 t164)) (fun _ hk => hk.1.2) (.int .i64 t165)) (fun _ hk => hk.1.2) (.int .i64 t166)) (fun _ hk => hk.1.2) (.slice Ao119 t167.length co119)) (fun _ hk => hk.1.2) (.int .i64 (wrap64 (t165 + t170)))) (fun _ hk => hk.2) (.int .i64 t164)) (fun _ hk => hk.2) (.int .i64 (wrap64 (t165 + t170)))) (fun _ hk => hk.2) (.int .i64 t166)) (fun _ hk => hk.2) (.slice Ao119 t167.length co119)) (fun _ hk => hk.1.1.1.1), zH22, zH10⟩
    rw [if_pos c93] at H
    have c93b0 : (a1_0 == 2) = true := beq_iff_eq.mpr c93
    have c93b1 : (a1_0 != 2) = false := bne_eq_false_iff_eq.mpr c93
    clear c93
    simp only [Option.some.injEq, Prod.mk.injEq] at H
    obtain ⟨rfl, rfl, rfl, rfl, rfl⟩ := H
    have hnb94 := NB147_146.out
    have hnc94 := NB146_147.out
    have hnb95 := NB147_148.out
    have hnc95 := NB148_147.out
    obtain ⟨hcz96_0, hcz96_1, hcz96_2, hcz96_3, hfz96_0, hfz96_1, hfz96_2, hfz96_3⟩ := zB4 BK147.out
    have hnb97 := NB146_148.out
    have hnc97 := NB148_146.out
    obtain ⟨hcz98_0, hcz98_1, hcz98_2, hcz98_3, hfz98_0, hfz98_1, hfz98_2, hfz98_3⟩ := zB4 BK146.out
    go_wp2_with (first | ((with_reducible refine gate_callee (f := 40) rfl ?_); refine goesL_ (some 72) rfl rfl Try.func40 zG88 rfl #[.agg #[.int .i64 a0_0, .int .i64 a0_1, .int .i64 a0_2, .slice Ao61 l0_3.length co61], .int .i64 a1_1] rfl zG63 ?_; (with_reducible refine (spec_l23End.calls kj59 a0_0 a0_1 a0_2 _ _ l0_3 a1_1 t164 t165 t166 t167 t170 _ ?side1 ?side2 A77.out).mono ?_); (case side1 => exact zH46); (case side2 => exact (q4a HO_147003.out).2.1); rintro e w99 ⟨v168, rfl, ho0, hb⟩; refine ⟨_, rfl, ?_⟩; have n_ := zA_ (za (zaj zG84 (zam ho0) hb)) (zA_ (za (zag (zap (zba (M := fun k_ => (P0_3_ k_ ∨ w.heap.size ≤ k_)) ho0 zG58 (fun k_ h_ => .inr h_)) (zan zG84)) (zs zG60))) (zA_ (za (zq (g := gb146) (o := .cells #[.int .i64 a0_0, .int .i64 a0_1, .int .i64 a0_2, .slice Ao61 l0_3.length co61] 30 (0, 0)) zG79 hb)) (zA_ (za (zq (g := gb147) (o := .cells #[.int .i64 a1_0, .int .i64 a1_1, .int .i64 a1_2, .int .i64 a1_3] 54 (0, 0)) zG80 hb)) (zA_ (za (zq (g := gb148) (o := .cells #[.int .i64 0, .int .i64 0, .int .i64 0, .slice none 0 0] 30 (0, 0)) zG81 hb)) (zA_ (za (Kept.below (S := (fun k_ => P0_3_ k_)) zG59 hb)) (za (zt zG60 hb))))))); clear HO_147003 BK146 BK147 BK148 HK HB; obtain ⟨HO_147003, HO169, BK146, BK147, BK148, HK, HB⟩ := n_; (try clear hb); (try clear ho0)) | ((with_reducible refine gate_dst (N := 6) rfl ?_); refine box_event ?hg (N := 6) ?hd (cs := #[.int .i64 0, .int .i64 0, .int .i64 0, .slice none 0 0]) (t := 30) ?hr ?_; (case hd => rfl); (case hg => rfl); (case hr => exact zH89); intro gb171 hg w100 hbox hb; have n_ := zA_ (za (zp zG84 hb)) (zA_ (za (zp zK174 hb)) (zA_ (za (zq (g := gb146) (o := .cells #[.int .i64 a0_0, .int .i64 a0_1, .int .i64 a0_2, .slice Ao61 l0_3.length co61] 30 (0, 0)) zG79 hb)) (zA_ (za (zq (g := gb147) (o := .cells #[.int .i64 a1_0, .int .i64 a1_1, .int .i64 a1_2, .int .i64 a1_3] 54 (0, 0)) zG80 hb)) (zA_ (za (zq (g := gb148) (o := .cells #[.int .i64 0, .int .i64 0, .int .i64 0, .slice none 0 0] 30 (0, 0)) zG81 hb)) (zA_ (za (Kept.below (S := (fun k_ => P0_3_ k_)) zG59 hb)) (zA_ (za (zt zG60 hb)) (zA_ (za (hbox)) (zA_ (zN1 w.heap.size hg zG58) (zA_ (zN1 w0.heap.size hg (zs zG60)) (zN3 hg (zx (g := gb146) (o := .cells #[.int .i64 a0_0, .int .i64 a0_1, .int .i64 a0_2, .slice Ao61 l0_3.length co61] 30 (0, 0)) zG79) (zN3 hg (zx (g := gb147) (o := .cells #[.int .i64 a1_0, .int .i64 a1_1, .int .i64 a1_2, .int .i64 a1_3] 54 (0, 0)) zG80) (zN2 hg (zx (g := gb148) (o := .cells #[.int .i64 0, .int .i64 0, .int .i64 0, .slice none 0 0] 30 (0, 0)) zG81))))))))))))); clear HO_147003 HO169 BK146 BK147 BK148 HK HB; obtain ⟨HO_147003, HO169, BK146, BK147, BK148, HK, HB, BK171, GW171, GE171, NB146_171, NB171_146, NB147_171, NB171_147, NB148_171, NB171_148⟩ := n_; clear hb hbox hg; have hnb101 := NB171_146.out; have hnc101 := NB146_171.out; have hnb102 := NB171_147.out; have hnc102 := NB147_171.out; have hnb103 := NB171_148.out; have hnc103 := NB148_171.out; obtain ⟨hcz104_0, hcz104_1, hcz104_2, hcz104_3, hfz104_0, hfz104_1, hfz104_2, hfz104_3⟩ := zB4 BK171.out; have hu104_0 : ∀ v0 : Value, World.cell? (World.setCell w100 ⟨gb171, 0, none⟩ v0) ⟨gb171, 0, none⟩ = some v0 := fun v0 => World.cell?_setCell_same' _ _ _ (by simp [World.cell?_setCell_other, hcz104_0]); have hu104_1 : ∀ v0 v1 : Value, World.cell? (World.setCell (World.setCell w100 ⟨gb171, 0, none⟩ v0) ⟨gb171, 1, none⟩ v1) ⟨gb171, 1, none⟩ = some v1 := fun v0 v1 => World.cell?_setCell_same' _ _ _ (by simp [World.cell?_setCell_other, hcz104_1]); have hu104_2 : ∀ v0 v1 v2 : Value, World.cell? (World.setCell (World.setCell (World.setCell w100 ⟨gb171, 0, none⟩ v0) ⟨gb171, 1, none⟩ v1) ⟨gb171, 2, none⟩ v2) ⟨gb171, 2, none⟩ = some v2 := fun v0 v1 v2 => World.cell?_setCell_same' _ _ _ (by simp [World.cell?_setCell_other, hcz104_2]); have hu104_3 : ∀ v0 v1 v2 v3 : Value, World.cell? (World.setCell (World.setCell (World.setCell (World.setCell w100 ⟨gb171, 0, none⟩ v0) ⟨gb171, 1, none⟩ v1) ⟨gb171, 2, none⟩ v2) ⟨gb171, 3, none⟩ v3) ⟨gb171, 3, none⟩ = some v3 := fun v0 v1 v2 v3 => World.cell?_setCell_same' _ _ _ (by simp [World.cell?_setCell_other, hcz104_3]); obtain ⟨Ao105, co105, eo105⟩ := zaa HO169.out; subst eo105; obtain ⟨hcz106_0, hcz106_1, hcz106_2, hcz106_3, hfz106_0, hfz106_1, hfz106_2, hfz106_3⟩ := zB4 BK147.out; obtain ⟨hcz107_0, hcz107_1, hcz107_2, hcz107_3, hfz107_0, hfz107_1, hfz107_2, hfz107_3⟩ := zB4 BK148.out))
    refine bodyPost_ret (results_ct rfl _ _ gb148 30 #[.int .i64 t164, .int .i64 t165, .int .i64 (wrap64 (t166 + t170)), .slice Ao105 t167.length co105] (0, 0) _ rfl (by (with_reducible repeat (first | refine zd ?_ _ | refine zg ?_ | refine zb ?_ _)); refine zu (cs := #[.int .i64 t164, .int .i64 t165, .int .i64 (wrap64 (t166 + t170)), .slice none 0 0]) ?_ 3 _ rfl; (with_reducible repeat (first | refine zd ?_ _ | refine zg ?_ | refine zb ?_ _)); refine zu (cs := #[.int .i64 t164, .int .i64 t165, .int .i64 0, .slice none 0 0]) ?_ 2 _ rfl; (with_reducible repeat (first | refine zd ?_ _ | refine zg ?_ | refine zb ?_ _)); refine zu (cs := #[.int .i64 t164, .int .i64 0, .int .i64 0, .slice none 0 0]) ?_ 1 _ rfl; (with_reducible repeat (first | refine zd ?_ _ | refine zg ?_ | refine zb ?_ _)); refine zu (cs := #[.int .i64 0, .int .i64 0, .int .i64 0, .slice none 0 0]) ?_ 0 _ rfl; (with_reducible repeat (first | refine zd ?_ _ | refine zg ?_ | refine zb ?_ _)); refine zv ?_ NB148_171.out _; (with_reducible repeat (first | refine zd ?_ _ | refine zg ?_ | refine zb ?_ _)); refine zv ?_ NB148_171.out _; (with_reducible repeat (first | refine zd ?_ _ | refine zg ?_ | refine zb ?_ _)); refine zv ?_ NB148_171.out _; (with_reducible repeat (first | refine zd ?_ _ | refine zg ?_ | refine zb ?_ _)); refine zv ?_ NB148_171.out _; (with_reducible repeat (first | refine zd ?_ _ | refine zg ?_ | refine zb ?_ _)); refine zv ?_ NB148_171.out _; (with_reducible repeat (first | refine zd ?_ _ | refine zg ?_ | refine zb ?_ _)); exact BK148.out) Try.underlying30 rfl zG88) rfl ?_
    exact ⟨_, zH78, by (with_reducible repeat (first | apply zm | apply zl | apply zn)); exact zr (zo (p := ⟨gb148, 3, none⟩) (zo (p := ⟨gb148, 2, none⟩) (zo (p := ⟨gb148, 1, none⟩) (zo (p := ⟨gb148, 0, none⟩) (zo (p := ⟨gb171, 2, none⟩) (zo (p := ⟨gb171, 3, none⟩) (zo (p := ⟨gb171, 2, none⟩) (zo (p := ⟨gb171, 1, none⟩) (zo (p := ⟨gb171, 0, none⟩) (zw (zw HO169.out BK171.out zG89) BK148.out zG89) (fun _ hk => hk.1.2) (.int .i64 t164)) (fun _ hk => hk.1.2) (.int .i64 t165)) (fun _ hk => hk.1.2) (.int .i64 t166)) (fun _ hk => hk.1.2) (.slice Ao105 t167.length co105)) (fun _ hk => hk.1.2) (.int .i64 (wrap64 (t166 + t170)))) (fun _ hk => hk.2) (.int .i64 t164)) (fun _ hk => hk.2) (.int .i64 t165)) (fun _ hk => hk.2) (.int .i64 (wrap64 (t166 + t170)))) (fun _ hk => hk.2) (.slice Ao105 t167.length co105)) (fun _ hk => hk.1.1.1.1), zH22, zH10⟩
 rw [if_pos c3] at H
 have c3b0 : (a1_0 == 1) = true := beq_iff_eq.mpr c3
 have c3b1 : (a1_0 != 1) = false := bne_eq_false_iff_eq.mpr c3
 clear c3
 have HC4 := za H
 clear H
 obtain ⟨Ao5, co5, eo5⟩ := zaa HO0_3.out
 subst eo5
 go_enter Try.func26, Try.ntmps26
 go_upto_region 3 with (first | ((with_reducible refine gate_dst (N := 2) rfl ?_); refine box_event ?hg (N := 2) ?hd (cs := #[.int .i64 a0_0, .int .i64 a0_1, .int .i64 a0_2, .slice Ao5 l0_3.length co5]) (t := 30) ?hr ?_; (case hd => rfl); (case hg => rfl); (case hr => exact zH89); intro gb146 hg w6 hbox hb; have n_ := zA_ (za (zp zK173 hb)) (zA_ (za (Kept.below (S := (fun k_ => P0_3_ k_)) zG69 hb)) (zA_ (za (zt zG70 hb)) (zA_ (za (hbox)) (zA_ (zN1 w.heap.size hg zK130) (zN1 w0.heap.size hg (zs zG70)))))); clear HO0_3 HK HB; obtain ⟨HO0_3, HK, HB, BK146, GW146, GE146⟩ := n_; clear hb hbox hg) | ((with_reducible refine gate_dst (N := 3) rfl ?_); refine box_event ?hg (N := 3) ?hd (cs := #[.int .i64 a1_0, .int .i64 a1_1, .int .i64 a1_2, .int .i64 a1_3]) (t := 54) ?hr ?_; (case hd => rfl); (case hg => rfl); (case hr => exact zH89); intro gb147 hg w7 hbox hb; have n_ := zA_ (za (zp zK173 hb)) (zA_ (za (zq (g := gb146) (o := .cells #[.int .i64 a0_0, .int .i64 a0_1, .int .i64 a0_2, .slice Ao5 l0_3.length co5] 30 (0, 0)) zG79 hb)) (zA_ (za (Kept.below (S := (fun k_ => P0_3_ k_)) zK134 hb)) (zA_ (za (zt zK145 hb)) (zA_ (za (hbox)) (zA_ (zN1 w.heap.size hg zK125) (zA_ (zN1 w0.heap.size hg (zs zK145)) (zN2 hg (zx (g := gb146) (o := .cells #[.int .i64 a0_0, .int .i64 a0_1, .int .i64 a0_2, .slice Ao5 l0_3.length co5] 30 (0, 0)) zG79)))))))); clear HO0_3 BK146 HK HB; obtain ⟨HO0_3, BK146, HK, HB, BK147, GW147, GE147, NB146_147, NB147_146⟩ := n_; clear hb hbox hg) | ((with_reducible refine gate_dst (N := 4) rfl ?_); refine box_event ?hg (N := 4) ?hd (cs := #[.int .i64 0, .int .i64 0, .int .i64 0, .slice none 0 0]) (t := 30) ?hr ?_; (case hd => rfl); (case hg => rfl); (case hr => exact zH89); intro gb148 hg w8 hbox hb; have n_ := zA_ (za (zp zK173 hb)) (zA_ (za (zq (g := gb146) (o := .cells #[.int .i64 a0_0, .int .i64 a0_1, .int .i64 a0_2, .slice Ao5 l0_3.length co5] 30 (0, 0)) zG79 hb)) (zA_ (za (zq (g := gb147) (o := .cells #[.int .i64 a1_0, .int .i64 a1_1, .int .i64 a1_2, .int .i64 a1_3] 54 (0, 0)) zG80 hb)) (zA_ (za (Kept.below (S := (fun k_ => P0_3_ k_)) zK128 hb)) (zA_ (za (zt zK139 hb)) (zA_ (za (hbox)) (zA_ (zN1 w.heap.size hg zK124) (zA_ (zN1 w0.heap.size hg (zs zK139)) (zN3 hg (zx (g := gb146) (o := .cells #[.int .i64 a0_0, .int .i64 a0_1, .int .i64 a0_2, .slice Ao5 l0_3.length co5] 30 (0, 0)) zG79) (zN2 hg (zx (g := gb147) (o := .cells #[.int .i64 a1_0, .int .i64 a1_1, .int .i64 a1_2, .int .i64 a1_3] 54 (0, 0)) zG80)))))))))); clear HO0_3 BK146 BK147 HK HB; obtain ⟨HO0_3, BK146, BK147, HK, HB, BK148, GW148, GE148, NB146_148, NB148_146, NB147_148, NB148_147⟩ := n_; clear hb hbox hg; have hnb9 := NB147_146.out; have hnc9 := NB146_147.out; have hnb10 := NB147_148.out; have hnc10 := NB148_147.out; obtain ⟨hcz11_0, hcz11_1, hcz11_2, hcz11_3, hfz11_0, hfz11_1, hfz11_2, hfz11_3⟩ := zB4 BK147.out))
 (try simp only [Act.put, List.setIfInBounds_toArray, List.set_cons_zero, List.set_cons_succ])
 go_cut [29] (fun v29 wc => ∃ (kq : Nat) (x29_3 : Bool), v29 = .bool x29_3 ∧ Aside0 (spec_l23Act.j0 kq x29_3 a0_0 a0_1 a0_2 l0_3 a1_0 a1_1 a1_2 a1_3 = some (r1, r2, r3, r4, r5)) ∧ Aside0 (kq ≤ k) ∧ Aside0 (Kd.R k36 36 wc w0.heap.size (fun k_ => (P0_3_ k_ ∨ w.heap.size ≤ k_)) (.slice Ao5 l0_3.length co5) l0_3) ∧ Aside0 (wc.heap[gb146]? = some (.cells #[.int .i64 a0_0, .int .i64 a0_1, .int .i64 a0_2, (.slice Ao5 l0_3.length co5)] 30 (0, 0))) ∧ Aside0 (wc.heap[gb147]? = some (.cells #[.int .i64 a1_0, .int .i64 a1_1, .int .i64 a1_2, .int .i64 a1_3] 54 (0, 0))) ∧ Aside0 (wc.heap[gb148]? = some (.cells #[.int .i64 0, .int .i64 0, .int .i64 0, (.slice none 0 0)] 30 (0, 0))) ∧ Aside0 (Kept w wc (fun k_ => P0_3_ k_)) ∧ Aside0 (Below w0.heap.size w0 wc))
 case first =>
  have H := HC4.out
  clear HC4
  replace H := Option.bind_eq_some_iff.mp H
  obtain ⟨t149, A120, H⟩ := H
  replace H : (if t149 = true then ((spec_l01In.f a1_2 1 100000).bind fun t150 => (if t150 = true then ((spec_l01In.f a1_3 1 10000).bind fun t151 => (spec_l23Act.j0 k (!t151) a0_0 a0_1 a0_2 l0_3 a1_0 a1_1 a1_2 a1_3)) else (spec_l23Act.j0 k true a0_0 a0_1 a0_2 l0_3 a1_0 a1_1 a1_2 a1_3))) else (spec_l23Act.j0 k true a0_0 a0_1 a0_2 l0_3 a1_0 a1_1 a1_2 a1_3)) = some (r1, r2, r3, r4, r5) := H
  have A12 := za A120
  clear A120
  by_cases c13 : t149 = true
  rotate_left
  ·replace c13 := Bool.eq_false_iff.mpr c13
   subst c13
   have H1 : (spec_l23Act.j0 k true a0_0 a0_1 a0_2 l0_3 a1_0 a1_1 a1_2 a1_3) = some (r1, r2, r3, r4, r5) := by rw [if_neg (show ¬ (false = true) by decide)] at H; exact H
   clear H
   have H := H1
   clear H1
   have H' := za H
   clear H
   have hnb23 := NB147_146.out
   have hnc23 := NB146_147.out
   have hnb24 := NB147_148.out
   have hnc24 := NB148_147.out
   obtain ⟨hcz25_0, hcz25_1, hcz25_2, hcz25_3, hfz25_0, hfz25_1, hfz25_2, hfz25_3⟩ := zB4 BK147.out
   go_wp2_with (first | ((with_reducible refine gate_callee (f := 25) rfl ?_); refine goesL_ (some 16) rfl rfl Try.func25 zG88 rfl #[.int .i64 a1_1, .int .i64 1, .int .i64 1000000] rfl zG63 ?_; (with_reducible refine (spec_l01In.calls a1_1 1 1000000 false _ A12.out).mono ?_); rintro e w' ⟨rfl, ⟨nd, rfl⟩⟩; refine ⟨_, rfl, ?_⟩))
   go_meet
   case rel => exact ⟨_, (true), zG87, H', ⟨zH90⟩, ⟨zH82⟩, ⟨zH71⟩, ⟨zH72⟩, ⟨zH73⟩, ⟨zH17⟩, ⟨zH28⟩⟩
  subst c13
  have H1 : ((spec_l01In.f a1_2 1 100000).bind fun t150 => (if t150 = true then ((spec_l01In.f a1_3 1 10000).bind fun t151 => (spec_l23Act.j0 k (!t151) a0_0 a0_1 a0_2 l0_3 a1_0 a1_1 a1_2 a1_3)) else (spec_l23Act.j0 k true a0_0 a0_1 a0_2 l0_3 a1_0 a1_1 a1_2 a1_3))) = some (r1, r2, r3, r4, r5) := by rw [if_pos rfl] at H; exact H
  clear H
  have H := H1
  clear H1
  replace H := Option.bind_eq_some_iff.mp H
  obtain ⟨t150, A140, H⟩ := H
  replace H : (if t150 = true then ((spec_l01In.f a1_3 1 10000).bind fun t151 => (spec_l23Act.j0 k (!t151) a0_0 a0_1 a0_2 l0_3 a1_0 a1_1 a1_2 a1_3)) else (spec_l23Act.j0 k true a0_0 a0_1 a0_2 l0_3 a1_0 a1_1 a1_2 a1_3)) = some (r1, r2, r3, r4, r5) := H
  have A14 := za A140
  clear A140
  by_cases c15 : t150 = true
  rotate_left
  ·replace c15 := Bool.eq_false_iff.mpr c15
   subst c15
   have H1 : (spec_l23Act.j0 k true a0_0 a0_1 a0_2 l0_3 a1_0 a1_1 a1_2 a1_3) = some (r1, r2, r3, r4, r5) := by rw [if_neg (show ¬ (false = true) by decide)] at H; exact H
   clear H
   have H := H1
   clear H1
   have H' := za H
   clear H
   have hnb20 := NB147_146.out
   have hnc20 := NB146_147.out
   have hnb21 := NB147_148.out
   have hnc21 := NB148_147.out
   obtain ⟨hcz22_0, hcz22_1, hcz22_2, hcz22_3, hfz22_0, hfz22_1, hfz22_2, hfz22_3⟩ := zB4 BK147.out
   go_wp2_with (first | ((with_reducible refine gate_callee (f := 25) rfl ?_); refine goesL_ (some 16) rfl rfl Try.func25 zG88 rfl #[.int .i64 a1_1, .int .i64 1, .int .i64 1000000] rfl zG63 ?_; (with_reducible refine (spec_l01In.calls a1_1 1 1000000 true _ A12.out).mono ?_); rintro e w' ⟨rfl, ⟨nd, rfl⟩⟩; refine ⟨_, rfl, ?_⟩) | (go_at_call 25; (with_reducible refine (spec_l01In.calls a1_2 1 100000 false _ A14.out).mono ?_); rintro e w' ⟨rfl, ⟨nd, rfl⟩⟩))
   go_meet
   case rel => exact ⟨_, (true), zG87, H', ⟨zH90⟩, ⟨zH82⟩, ⟨zH71⟩, ⟨zH72⟩, ⟨zH73⟩, ⟨zH17⟩, ⟨zH28⟩⟩
  subst c15
  have H1 : ((spec_l01In.f a1_3 1 10000).bind fun t151 => (spec_l23Act.j0 k (!t151) a0_0 a0_1 a0_2 l0_3 a1_0 a1_1 a1_2 a1_3)) = some (r1, r2, r3, r4, r5) := by rw [if_pos rfl] at H; exact H
  clear H
  have H := H1
  clear H1
  replace H := Option.bind_eq_some_iff.mp H
  obtain ⟨t151, A160, H⟩ := H
  replace H : (spec_l23Act.j0 k (!t151) a0_0 a0_1 a0_2 l0_3 a1_0 a1_1 a1_2 a1_3) = some (r1, r2, r3, r4, r5) := H
  have A16 := za A160
  clear A160
  have H' := za H
  clear H
  have hnb17 := NB147_146.out
  have hnc17 := NB146_147.out
  have hnb18 := NB147_148.out
  have hnc18 := NB148_147.out
  obtain ⟨hcz19_0, hcz19_1, hcz19_2, hcz19_3, hfz19_0, hfz19_1, hfz19_2, hfz19_3⟩ := zB4 BK147.out
  go_wp2_with (first | ((with_reducible refine gate_callee (f := 25) rfl ?_); refine goesL_ (some 16) rfl rfl Try.func25 zG88 rfl #[.int .i64 a1_1, .int .i64 1, .int .i64 1000000] rfl zG63 ?_; (with_reducible refine (spec_l01In.calls a1_1 1 1000000 true _ A12.out).mono ?_); rintro e w' ⟨rfl, ⟨nd, rfl⟩⟩; refine ⟨_, rfl, ?_⟩) | (go_at_call 25; (with_reducible refine (spec_l01In.calls a1_2 1 100000 true _ A14.out).mono ?_); rintro e w' ⟨rfl, ⟨nd, rfl⟩⟩) | (go_at_call 25; (with_reducible refine (spec_l01In.calls a1_3 1 10000 t151 _ A16.out).mono ?_); rintro e w' ⟨rfl, ⟨nd, rfl⟩⟩))
  go_meet
  case rel => exact ⟨_, (!t151), zG87, H', ⟨zH90⟩, ⟨zH82⟩, ⟨zH71⟩, ⟨zH72⟩, ⟨zH73⟩, ⟨zH17⟩, ⟨zH28⟩⟩
 case rest =>
  clear HC4
  try clear c3
  try clear c3b0
  try clear c3b1
  try clear c13
  try clear c15
  try clear hcz11_0
  try clear hcz11_1
  try clear hcz11_2
  try clear hcz11_3
  try clear hcz19_0
  try clear hcz19_1
  try clear hcz19_2
  try clear hcz19_3
  try clear hcz22_0
  try clear hcz22_1
  try clear hcz22_2
  try clear hcz22_3
  try clear hcz25_0
  try clear hcz25_1
  try clear hcz25_2
  try clear hcz25_3
  try clear hfz11_0
  try clear hfz11_1
  try clear hfz11_2
  try clear hfz11_3
  try clear hfz19_0
  try clear hfz19_1
  try clear hfz19_2
  try clear hfz19_3
  try clear hfz22_0
  try clear hfz22_1
  try clear hfz22_2
  try clear hfz22_3
  try clear hfz25_0
  try clear hfz25_1
  try clear hfz25_2
  try clear hfz25_3
  obtain ⟨kq, x29_3, rfl, HA, HJ3, HO_147003, BK146, BK147, BK148, HK, HB⟩ := hcut
  cases kq with
  | zero => exact absurd HA.out (by simp [spec_l23Act.j0])
  | succ kj3 =>
   have H := HA.out
   clear HA
   simp only [spec_l23Act.j0] at H
   by_cases c26 : x29_3 = true
   ·subst c26
    have H1 : (some (a0_0, a0_1, a0_2, l0_3, 5)) = some (r1, r2, r3, r4, r5) := by rw [if_pos rfl] at H; exact H
    clear H
    have H := H1
    clear H1
    simp only [Option.some.injEq, Prod.mk.injEq] at H
    obtain ⟨rfl, rfl, rfl, rfl, rfl⟩ := H
    have hnb27 := NB146_147.out
    have hnc27 := NB147_146.out
    have hnb28 := NB146_148.out
    have hnc28 := NB148_146.out
    obtain ⟨hcz29_0, hcz29_1, hcz29_2, hcz29_3, hfz29_0, hfz29_1, hfz29_2, hfz29_3⟩ := zB4 BK146.out
    have hnb30 := NB148_147.out
    have hnc30 := NB147_148.out
    obtain ⟨hcz31_0, hcz31_1, hcz31_2, hcz31_3, hfz31_0, hfz31_1, hfz31_2, hfz31_3⟩ := zB4 BK148.out
    go_wp2
    refine bodyPost_ret (results_ct rfl _ _ gb148 30 #[.int .i64 a0_0, .int .i64 a0_1, .int .i64 a0_2, .slice Ao5 l0_3.length co5] (0, 0) _ rfl zK97 Try.underlying30 rfl zG88) rfl ?_
    exact zH1
   replace c26 := Bool.eq_false_iff.mpr c26
   subst c26
   have H1 : (if a1_2 > a0_1 then (some (a0_0, a0_1, a0_2, l0_3, 19)) else ((some (([] : List (S36)) : List (S36))).bind fun y152 => (if y152.length + l0_3.length < 5864062014805 then ((some (y152 ++ l0_3 : List (S36))).bind fun y155 => ((some (([(⟨a1_1, a1_2, wrap64 (a0_0 + a1_3)⟩ : S36)] : List (S36)) : List (S36))).bind fun y158 => (if y155.length + y158.length < 5864062014805 then (some (a0_0, wrap64 (a0_1 - a1_2), a0_2, (y155 ++ y158), 0)) else (none)))) else (none)))) = some (r1, r2, r3, r4, r5) := by rw [if_neg (show ¬ (false = true) by decide)] at H; exact H
   clear H
   have H := H1
   clear H1
   by_cases c32 : a1_2 > a0_1
   ·rw [if_pos c32] at H
    have c32b0 : decide (a0_1 < a1_2) = true := decide_eq_true c32
    clear c32
    simp only [Option.some.injEq, Prod.mk.injEq] at H
    obtain ⟨rfl, rfl, rfl, rfl, rfl⟩ := H
    have hnb33 := NB147_146.out
    have hnc33 := NB146_147.out
    have hnb34 := NB147_148.out
    have hnc34 := NB148_147.out
    obtain ⟨hcz35_0, hcz35_1, hcz35_2, hcz35_3, hfz35_0, hfz35_1, hfz35_2, hfz35_3⟩ := zB4 BK147.out
    have hnb36 := NB146_148.out
    have hnc36 := NB148_146.out
    obtain ⟨hcz37_0, hcz37_1, hcz37_2, hcz37_3, hfz37_0, hfz37_1, hfz37_2, hfz37_3⟩ := zB4 BK146.out
    obtain ⟨hcz38_0, hcz38_1, hcz38_2, hcz38_3, hfz38_0, hfz38_1, hfz38_2, hfz38_3⟩ := zB4 BK148.out
    go_wp2
    refine bodyPost_ret (results_ct rfl _ _ gb148 30 #[.int .i64 a0_0, .int .i64 a0_1, .int .i64 a0_2, .slice Ao5 l0_3.length co5] (0, 0) _ rfl zK97 Try.underlying30 rfl zG88) rfl ?_
    exact zH1
   rw [if_neg c32] at H
   have c32b0 : decide (a0_1 < a1_2) = false := decide_eq_false c32
   clear c32
   obtain ⟨y152, hy152⟩ : ∃ y_ : List (S36), y_ = (([] : List (S36))) := ⟨_, rfl⟩
   replace H : (if y152.length + l0_3.length < 5864062014805 then ((some (y152 ++ l0_3 : List (S36))).bind fun y155 => ((some (([(⟨a1_1, a1_2, wrap64 (a0_0 + a1_3)⟩ : S36)] : List (S36)) : List (S36))).bind fun y158 => (if y155.length + y158.length < 5864062014805 then (some (a0_0, wrap64 (a0_1 - a1_2), a0_2, (y155 ++ y158), 0)) else (none)))) else (none)) = some (r1, r2, r3, r4, r5) := by first | (rw [hy152]; with_reducible exact H) | (have H2_ := (Option.bind_some _ _).symm.trans H; rw [hy152]; with_reducible exact H2_) | (have H2_ := (Option.bind_some _ _).symm.trans H; with_reducible exact H2_) | with_reducible exact H | (rw [hy152]; exact H) | exact H
   have Ny152 := za hy152
   clear hy152
   by_cases c39 : y152.length + l0_3.length < 5864062014805
   rotate_left
   ·rw [if_neg c39] at H
    exact absurd H (by simp)
   rw [if_pos c39] at H
   have LMc39 := za c39
   clear c39
   obtain ⟨y155, hy155⟩ : ∃ y_ : List (S36), y_ = (y152 ++ l0_3) := ⟨_, rfl⟩
   replace H : ((some (([(⟨a1_1, a1_2, wrap64 (a0_0 + a1_3)⟩ : S36)] : List (S36)) : List (S36))).bind fun y158 => (if y155.length + y158.length < 5864062014805 then (some (a0_0, wrap64 (a0_1 - a1_2), a0_2, (y155 ++ y158), 0)) else (none))) = some (r1, r2, r3, r4, r5) := by first | (rw [hy155]; with_reducible exact H) | (have H2_ := (Option.bind_some _ _).symm.trans H; rw [hy155]; with_reducible exact H2_) | (have H2_ := (Option.bind_some _ _).symm.trans H; with_reducible exact H2_) | with_reducible exact H | (rw [hy155]; exact H) | exact H
   have Ny155 := za hy155
   clear hy155
   obtain ⟨y158, hy158⟩ : ∃ y_ : List (S36), y_ = (([(⟨a1_1, a1_2, wrap64 (a0_0 + a1_3)⟩ : S36)] : List (S36))) := ⟨_, rfl⟩
   replace H : (if y155.length + y158.length < 5864062014805 then (some (a0_0, wrap64 (a0_1 - a1_2), a0_2, (y155 ++ y158), 0)) else (none)) = some (r1, r2, r3, r4, r5) := by first | (rw [hy158]; with_reducible exact H) | (have H2_ := (Option.bind_some _ _).symm.trans H; rw [hy158]; with_reducible exact H2_) | (have H2_ := (Option.bind_some _ _).symm.trans H; with_reducible exact H2_) | with_reducible exact H | (rw [hy158]; exact H) | exact H
   have Ny158 := za hy158
   clear hy158
   by_cases c40 : y155.length + y158.length < 5864062014805
   rotate_left
   ·rw [if_neg c40] at H
    exact absurd H (by simp)
   rw [if_pos c40] at H
   have LMc40 := za c40
   clear c40
   obtain ⟨y161, hy161⟩ : ∃ y_ : List (S36), y_ = (y155 ++ y158) := ⟨_, rfl⟩
   replace H : (some (a0_0, wrap64 (a0_1 - a1_2), a0_2, y161, 0)) = some (r1, r2, r3, r4, r5) := by first | (rw [hy161]; with_reducible exact H) | (have H2_ := (Option.bind_some _ _).symm.trans H; rw [hy161]; with_reducible exact H2_) | (have H2_ := (Option.bind_some _ _).symm.trans H; with_reducible exact H2_) | with_reducible exact H | (rw [hy161]; exact H) | exact H
   have Ny161 := za hy161
   clear hy161
   simp only [Option.some.injEq, Prod.mk.injEq] at H
   obtain ⟨rfl, rfl, rfl, rfl, rfl⟩ := H
   have hnb41 := NB147_146.out
   have hnc41 := NB146_147.out
   have hnb42 := NB147_148.out
   have hnc42 := NB148_147.out
   obtain ⟨hcz43_0, hcz43_1, hcz43_2, hcz43_3, hfz43_0, hfz43_1, hfz43_2, hfz43_3⟩ := zB4 BK147.out
   have hnb44 := NB146_148.out
   have hnc44 := NB148_146.out
   obtain ⟨hcz45_0, hcz45_1, hcz45_2, hcz45_3, hfz45_0, hfz45_1, hfz45_2, hfz45_3⟩ := zB4 BK146.out
   try go_wp2
   have n0_ : Aside0 (Kd.R k36 36 (wc.setCell ⟨gb146, 1, none⟩ (.int .i64 (wrap64 (a0_1 - a1_2)))) w0.heap.size (fun k_ => (P0_3_ k_ ∨ w.heap.size ≤ k_)) (.slice Ao5 l0_3.length co5) l0_3) := ⟨by (with_reducible repeat (first | apply zm | apply zl | apply zn)); exact zr (zo (p := ⟨gb146, 1, none⟩) (zw HO_147003.out BK146.out zG89) (fun _ hk => hk.2) (.int .i64 (wrap64 (a0_1 - a1_2)))) (fun _ hk => hk.1)⟩
   have n1_ : Aside0 ((wc.setCell ⟨gb146, 1, none⟩ (.int .i64 (wrap64 (a0_1 - a1_2)))).heap[gb146]? = some (.cells #[.int .i64 a0_0, .int .i64 (wrap64 (a0_1 - a1_2)), .int .i64 a0_2, .slice Ao5 l0_3.length co5] 30 (0, 0))) := ⟨by (with_reducible repeat (first | refine zd ?_ _ | refine zg ?_ | refine zb ?_ _)); refine zu (cs := #[.int .i64 a0_0, .int .i64 a0_1, .int .i64 a0_2, .slice Ao5 l0_3.length co5]) ?_ 1 _ rfl; (with_reducible repeat (first | refine zd ?_ _ | refine zg ?_ | refine zb ?_ _)); exact BK146.out⟩
   have n2_ : Aside0 ((wc.setCell ⟨gb146, 1, none⟩ (.int .i64 (wrap64 (a0_1 - a1_2)))).heap[gb147]? = some (.cells #[.int .i64 a1_0, .int .i64 a1_1, .int .i64 a1_2, .int .i64 a1_3] 54 (0, 0))) := ⟨by (with_reducible repeat (first | refine zd ?_ _ | refine zg ?_ | refine zb ?_ _)); refine zv ?_ NB147_146.out _; (with_reducible repeat (first | refine zd ?_ _ | refine zg ?_ | refine zb ?_ _)); exact BK147.out⟩
   have n3_ : Aside0 ((wc.setCell ⟨gb146, 1, none⟩ (.int .i64 (wrap64 (a0_1 - a1_2)))).heap[gb148]? = some (.cells #[.int .i64 0, .int .i64 0, .int .i64 0, .slice none 0 0] 30 (0, 0))) := ⟨by (with_reducible repeat (first | refine zd ?_ _ | refine zg ?_ | refine zb ?_ _)); refine zv ?_ NB148_146.out _; (with_reducible repeat (first | refine zd ?_ _ | refine zg ?_ | refine zb ?_ _)); exact BK148.out⟩
   have n4_ : Aside0 (Kept w (wc.setCell ⟨gb146, 1, none⟩ (.int .i64 (wrap64 (a0_1 - a1_2)))) (fun k_ => P0_3_ k_)) := ⟨zH17⟩
   have n5_ : Aside0 (Below w0.heap.size w0 (wc.setCell ⟨gb146, 1, none⟩ (.int .i64 (wrap64 (a0_1 - a1_2))))) := ⟨zH28⟩
   (try clear HO_147003)
   (try clear BK146)
   (try clear BK147)
   (try clear BK148)
   (try clear HK)
   (try clear HB)
   generalize (wc.setCell ⟨gb146, 1, none⟩ (.int .i64 (wrap64 (a0_1 - a1_2)))) = w46 at n0_ n1_ n2_ n3_ n4_ n5_ ⊢
   have HO_147003 := n0_
   have BK146 := n1_
   have BK147 := n2_
   have BK148 := n3_
   have HK := n4_
   have HB := n5_
   clear n0_ n1_ n2_ n3_ n4_ n5_
   obtain ⟨n0_, n1_, n2_, n3_, n4_, n5_⟩ := zD6 (zn HO_147003.out) (zg BK146.out) (zg BK147.out) (zg BK148.out) (Kept.drew HK.out) (zi HB.out)
   clear HO_147003 BK146 BK147 BK148 HK HB
   have HO_147003 := n0_
   have BK146 := n1_
   have BK147 := n2_
   have BK148 := n3_
   have HK := n4_
   have HB := n5_
   clear n0_ n1_ n2_ n3_ n4_ n5_
   refine start_ (n := 18) (S := fun w' => w'.cell? ⟨gb146, 0, none⟩ = some (.int .i64 a0_0) ∧ w'.cell? ⟨gb146, 1, none⟩ = some (.int .i64 (wrap64 (a0_1 - a1_2))) ∧ w'.cell? ⟨gb146, 2, none⟩ = some (.int .i64 a0_2) ∧ w'.cell? ⟨gb146, 3, none⟩ = some (.slice Ao5 l0_3.length co5) ∧ w'.cell? ⟨gb147, 0, none⟩ = some (.int .i64 a1_0) ∧ w'.cell? ⟨gb147, 1, none⟩ = some (.int .i64 a1_1) ∧ w'.cell? ⟨gb147, 2, none⟩ = some (.int .i64 a1_2) ∧ w'.cell? ⟨gb147, 3, none⟩ = some (.int .i64 a1_3)) (ds := [17]) #[false, false, false, false, false, false, false, false, false, false, false, false, false, false, false, false, false, false] zG88 rfl rfl ⟨(zc BK146.out 0).trans rfl, (zc BK146.out 1).trans rfl, (zc BK146.out 2).trans rfl, (zc BK146.out 3).trans rfl, (zc BK147.out 0).trans rfl, (zc BK147.out 1).trans rfl, (zc BK147.out 2).trans rfl, (zc BK147.out 3).trans rfl⟩ (fun hHeld => ?_); refine with_tabW spec_l23Act.tab8 spec_l23Act.bits8 (fun HT_ HW_ => ?_)
   generalize w46.drew = w47 at HO_147003 BK146 BK147 BK148 HK HB hHeld ⊢
   refine zP 1 44 #[false, true, false, false, false, false, false, false, false, false, false, false, false, false, false, false, false, false] HT_ ?_
   refine zP 4 47 #[false, true, false, false, true, false, false, false, false, false, false, false, false, false, false, false, false, false] HT_ ?_
   refine zP 6 49 #[false, true, false, false, true, false, true, false, false, false, false, false, false, false, false, false, false, false] HT_ ?_
   refine zP 8 51 #[false, true, false, false, true, false, true, false, true, false, false, false, false, false, false, false, false, false] HT_ ?_
   refine zP 10 53 #[false, true, false, false, true, false, true, false, true, false, true, false, false, false, false, false, false, false] HT_ ?_
   refine zQ 2 45 #[false, true, true, false, true, false, true, false, true, false, true, false, false, false, false, false, false, false] HT_ HW_ hHeld ?_
   refine zQ 5 48 #[false, true, true, false, true, true, true, false, true, false, true, false, false, false, false, false, false, false] HT_ HW_ hHeld ?_
   refine zQ 7 50 #[false, true, true, false, true, true, true, true, true, false, true, false, false, false, false, false, false, false] HT_ HW_ hHeld ?_
   refine zQ 9 52 #[false, true, true, false, true, true, true, true, true, true, true, false, false, false, false, false, false, false] HT_ HW_ hHeld ?_
   refine zQ 11 54 #[false, true, true, false, true, true, true, true, true, true, true, true, false, false, false, false, false, false] HT_ HW_ hHeld ?_
   refine zP 12 55 #[false, true, true, false, true, true, true, true, true, true, true, true, true, false, false, false, false, false] HT_ ?_
   refine zP 13 56 #[false, true, true, false, true, true, true, true, true, true, true, true, true, true, false, false, false, false] HT_ ?_
   refine join_ (σ := Value × Value × Value) 3 b4A0 (fun s_ => [(43, s_.1), (46, s_.2.1), (57, s_.2.2)]) (fun s_ w' => (w'.cell? ⟨gb146, 0, none⟩ = some (.int .i64 a0_0) ∧ w'.cell? ⟨gb146, 1, none⟩ = some (.int .i64 (wrap64 (a0_1 - a1_2))) ∧ w'.cell? ⟨gb146, 2, none⟩ = some (.int .i64 a0_2) ∧ w'.cell? ⟨gb146, 3, none⟩ = some (.slice Ao5 l0_3.length co5) ∧ w'.cell? ⟨gb147, 0, none⟩ = some (.int .i64 a1_0) ∧ w'.cell? ⟨gb147, 1, none⟩ = some (.int .i64 a1_1) ∧ w'.cell? ⟨gb147, 2, none⟩ = some (.int .i64 a1_2) ∧ w'.cell? ⟨gb147, 3, none⟩ = some (.int .i64 a1_3)) ∧ (Kd.R k36 36 w' w0.heap.size (fun k_ => (P0_3_ k_ ∨ w.heap.size ≤ k_) ∧ some k_ ≠ (s_.2.2 : Value).ownBlock ∧ some k_ ≠ (.slice Ao5 l0_3.length co5 : Value).ownBlock) s_.2.1 y155) ∧ (Kd.R k36 36 w' w0.heap.size (fun k_ => (P0_3_ k_ ∨ w.heap.size ≤ k_) ∧ some k_ ≠ (s_.2.1 : Value).ownBlock ∧ some k_ ≠ (.slice Ao5 l0_3.length co5 : Value).ownBlock) s_.2.2 y158) ∧ (Kd.R k36 36 w' w0.heap.size (fun k_ => (P0_3_ k_ ∨ w.heap.size ≤ k_) ∧ some k_ ≠ (s_.2.1 : Value).ownBlock ∧ some k_ ≠ (s_.2.2 : Value).ownBlock) (.slice Ao5 l0_3.length co5) l0_3) ∧ (w'.heap[gb146]? = some (.cells #[.int .i64 a0_0, .int .i64 (wrap64 (a0_1 - a1_2)), .int .i64 a0_2, .slice Ao5 l0_3.length co5] 30 (0, 0))) ∧ (w'.heap[gb147]? = some (.cells #[.int .i64 a1_0, .int .i64 a1_1, .int .i64 a1_2, .int .i64 a1_3] 54 (0, 0))) ∧ (w'.heap[gb148]? = some (.cells #[.int .i64 0, .int .i64 0, .int .i64 0, .slice none 0 0] 30 (0, 0))) ∧ (Kept w w' (fun k_ => P0_3_ k_)) ∧ (Below w0.heap.size w0 w')) ?_ ?_
   rotate_left
   ·intro hCont
    refine two_ (i := 0) (j := 14) (Ni := some 43) (Nj := some 57) #[true, true, true, false, true, true, true, true, true, true, true, true, true, true, false, false, false, false] #[false, true, true, false, true, true, true, true, true, true, true, true, true, true, true, false, false, false] rfl rfl rfl rfl (two_of HT_.out zG88) zG89 zG89 (fun K hK => ?_) (fun K hK => ?_)
    ·skip
     refine zbe k36 _ 36 ?hg (N := 43) ?hd (xs := ([] : List (S36))) (inner := []) (ok := fun _ => True) (okp := fun _ => True) ?hr ?hp (fun _ hk => hk) trivial (Below.refl _ _) (Nat.le_refl _) (by simp) ?_; (case hd => rfl); (case hg => rfl); (case hr => exact zH89); (case hp => exact (Reps.none _ _))
     intro v153 w48 ho49 hb hg_ hnew_
     clear hg_ hnew_
     (first | rw [← Ny152.out] at ho49 | (simp only [Int.reduceToNat] at ho49; rw [← Ny152.out] at ho49))
     obtain ⟨n0_, n1_, n2_, n3_, n4_, n5_, n6_⟩ := zD7 (zaj zG84 (zam ho49) hb) (zag (zap (zba (M := fun k_ => (P0_3_ k_ ∨ w.heap.size ≤ k_)) ho49 zG58 (fun k_ h_ => .inr h_)) (zan zG84)) (zs zG60)) (zq (g := gb146) (o := .cells #[.int .i64 a0_0, .int .i64 (wrap64 (a0_1 - a1_2)), .int .i64 a0_2, .slice Ao5 l0_3.length co5] 30 (0, 0)) zG79 hb) (zq (g := gb147) (o := .cells #[.int .i64 a1_0, .int .i64 a1_1, .int .i64 a1_2, .int .i64 a1_3] 54 (0, 0)) zG80 hb) (zq (g := gb148) (o := .cells #[.int .i64 0, .int .i64 0, .int .i64 0, .slice none 0 0] 30 (0, 0)) zG81 hb) (Kept.below (S := (fun k_ => P0_3_ k_)) zG59 hb) (zt zG60 hb)
     clear HO_147003 BK146 BK147 BK148 HK HB
     have HO_147003 := n0_
     have HO154 := n1_
     have BK146 := n2_
     have BK147 := n3_
     have BK148 := n4_
     have HK := n5_
     have HB := n6_
     clear n0_ n1_ n2_ n3_ n4_ n5_ n6_
     clear hb ho49
     refine hK.out _ _ ⟨(zc BK146.out 0).trans rfl, (zc BK146.out 1).trans rfl, (zc BK146.out 2).trans rfl, (zc BK146.out 3).trans rfl, (zc BK147.out 0).trans rfl, (zc BK147.out 1).trans rfl, (zc BK147.out 2).trans rfl, (zc BK147.out 3).trans rfl⟩ (fun hHeld => ?_)
     clear hK K
     refine norm_ (a' := ?_) ?_ ?_
     rotate_left
     ·show Act.put _ (some 43) _ = _
      simp only [Act.put, List.setIfInBounds_toArray, List.set_cons_zero, List.set_cons_succ, i64_w, i32_w]
      rfl
     refine two_ (i := 3) (j := 14) (Ni := some 46) (Nj := some 57) #[true, true, true, true, true, true, true, true, true, true, true, true, true, true, false, false, false, false] b4A1 rfl rfl rfl rfl (two_of HT_.out zG88) zG89 zG89 (fun K hK => ?_) (fun K hK => ?_)
     ·skip
      refine zaz k36 (w0 := w0) w0.heap.size (by rfl) (.tmp 43) (.tmp 45) 28 36 (.agg #[(.int .i64 0), (.int .i64 0), (.int .i64 0)]) 24 rfl Try.underlying28 info36 rfl zG89 (by omega) v153 y152 l0_3 _ _ _ (fun k_ => (P0_3_ k_ ∨ w.heap.size ≤ k_) ∧ some k_ ≠ (.slice Ao5 l0_3.length co5 : Value).ownBlock) (fun _ => False) rfl rfl ?aO ?aR (fun _ _ h => h) (fun _ h => h.elim) ?aF ?aB ?aS ?aL ?_
      (case aR => exact zH46)
      (case aB => exact zG60)
      (case aF => exact (fun k_ hk => ⟨(.inr (Nat.le_trans zG58 hk)), Kd.fresh' (zan zG84) k_ hk⟩))
      (case aO => exact (by (with_reducible repeat (first | apply zm | apply zl | apply zn)); exact zr HO154.out (fun _ hk => ⟨hk.1.1, hk.2⟩)))
      (case aS => exact (zs zG60))
      (case aL => have := LMc39.out; omega)
      intro v156 w50 ho hb hg hat
      rw [← Ny155.out] at ho
      obtain ⟨n0_, n1_, n2_, n3_, n4_, n5_, n6_⟩ := zD7 (zbc (ok := (fun k_ => (P0_3_ k_ ∨ w.heap.size ≤ k_))) zG84 hg hat) (zaf (g := gb146) (o := .cells #[.int .i64 a0_0, .int .i64 (wrap64 (a0_1 - a1_2)), .int .i64 a0_2, .slice Ao5 l0_3.length co5] 30 (0, 0)) zG79 hg (zac HO154.out BK146.out zG89)) (zaf (g := gb147) (o := .cells #[.int .i64 a1_0, .int .i64 a1_1, .int .i64 a1_2, .int .i64 a1_3] 54 (0, 0)) zG80 hg (zac HO154.out BK147.out zG89)) (zaf (g := gb148) (o := .cells #[.int .i64 0, .int .i64 0, .int .i64 0, .slice none 0 0] 30 (0, 0)) zG81 hg (zac HO154.out BK148.out zG89)) (hb) (zal (S := (fun k_ => P0_3_ k_)) hg zG59 (fun k_ e_ => (HO154.out.1 k_ e_).1.1)) (ho)
      clear HO_147003 BK146 BK147 BK148 HB HK HO154
      have HO_147003 := n0_
      have BK146 := n1_
      have BK147 := n2_
      have BK148 := n3_
      have HB := n4_
      have HK := n5_
      have HO157 := n6_
      clear n0_ n1_ n2_ n3_ n4_ n5_ n6_
      clear ho hb hg hat
      refine hK.out _ _ ⟨(zc BK146.out 0).trans rfl, (zc BK146.out 1).trans rfl, (zc BK146.out 2).trans rfl, (zc BK146.out 3).trans rfl, (zc BK147.out 0).trans rfl, (zc BK147.out 1).trans rfl, (zc BK147.out 2).trans rfl, (zc BK147.out 3).trans rfl⟩ (fun hHeld => ?_)
      clear hK K
      refine norm_ (a' := ?_) ?_ ?_
      rotate_left
      ·show Act.put _ (some 46) _ = _
       simp only [Act.put, List.setIfInBounds_toArray, List.set_cons_zero, List.set_cons_succ, i64_w, i32_w]
       rfl
      refine one_ (i := 14) (N := some 57) b4A0 rfl rfl (one_of HT_.out zG88) zG89 (fun K hK => ?_)
      refine zbe k36 _ 36 ?hg (N := 57) ?hd (xs := ([(⟨a1_1, a1_2, wrap64 (a0_0 + a1_3)⟩ : S36)] : List (S36))) (inner := [.int .i64 a1_1, .int .i64 a1_2, .int .i64 (wrap64 (a0_0 + a1_3))]) (ok := fun _ => True) (okp := fun _ => True) ?hr ?hp (fun _ hk => hk) trivial (Below.refl _ _) (Nat.le_refl _) (by simp) ?_; (case hd => rfl); (case hg => rfl); (case hr => exact zH89); (case hp => exact zH19)
      intro v159 w51 ho52 hb hg_ hnew_
      clear hg_ hnew_
      (first | rw [← Ny158.out] at ho52 | (simp only [Int.reduceToNat] at ho52; rw [← Ny158.out] at ho52))
      obtain ⟨n0_, n1_, n2_, n3_, n4_, n5_, n6_, n7_⟩ := zD8 (zaj zG84 (zam ho52) hb) (zaj (by (with_reducible repeat (first | apply zm | apply zl | apply zn)); exact HO157.out) (zam ho52) hb) (zag (zap (zap (zba (M := fun k_ => (P0_3_ k_ ∨ w.heap.size ≤ k_)) ho52 zG58 (fun k_ h_ => .inr h_)) (zan zG84)) (zan (by (with_reducible repeat (first | apply zm | apply zl | apply zn)); exact HO157.out))) (zs zG60)) (zq (g := gb146) (o := .cells #[.int .i64 a0_0, .int .i64 (wrap64 (a0_1 - a1_2)), .int .i64 a0_2, .slice Ao5 l0_3.length co5] 30 (0, 0)) zG79 hb) (zq (g := gb147) (o := .cells #[.int .i64 a1_0, .int .i64 a1_1, .int .i64 a1_2, .int .i64 a1_3] 54 (0, 0)) zG80 hb) (zq (g := gb148) (o := .cells #[.int .i64 0, .int .i64 0, .int .i64 0, .slice none 0 0] 30 (0, 0)) zG81 hb) (Kept.below (S := (fun k_ => P0_3_ k_)) zG59 hb) (zt zG60 hb)
      clear HO_147003 HO157 BK146 BK147 BK148 HK HB
      have HO_147003 := n0_
      have HO157 := n1_
      have HO160 := n2_
      have BK146 := n3_
      have BK147 := n4_
      have BK148 := n5_
      have HK := n6_
      have HB := n7_
      clear n0_ n1_ n2_ n3_ n4_ n5_ n6_ n7_
      clear hb ho52
      refine hK.out _ _ ⟨(zc BK146.out 0).trans rfl, (zc BK146.out 1).trans rfl, (zc BK146.out 2).trans rfl, (zc BK146.out 3).trans rfl, (zc BK147.out 0).trans rfl, (zc BK147.out 1).trans rfl, (zc BK147.out 2).trans rfl, (zc BK147.out 3).trans rfl⟩ (fun hHeld => ?_)
      clear hK K
      refine norm_ (a' := ?_) ?_ ?_
      rotate_left
      ·show Act.put _ (some 57) _ = _
       simp only [Act.put, List.setIfInBounds_toArray, List.set_cons_zero, List.set_cons_succ, i64_w, i32_w]
       rfl
      exact norm_ zK159 (hCont (v153, v156, v159) _ ⟨hHeld, (by (with_reducible repeat (first | apply zm | apply zl | apply zn)); exact zr HO157.out (fun _ hk => ⟨hk.1.1, ⟨hk.2, hk.1.2⟩⟩)), (by (with_reducible repeat (first | apply zm | apply zl | apply zn)); exact zr HO160.out (fun _ hk => ⟨hk.1.1.1, ⟨hk.2, hk.1.2⟩⟩)), (by (with_reducible repeat (first | apply zm | apply zl | apply zn)); exact zr HO_147003.out (fun _ hk => ⟨hk.1.1, ⟨hk.1.2, hk.2⟩⟩)), zG79, zG80, zG81, zG59, zG60⟩)
     ·skip
      refine zbe k36 _ 36 ?hg (N := 57) ?hd (xs := ([(⟨a1_1, a1_2, wrap64 (a0_0 + a1_3)⟩ : S36)] : List (S36))) (inner := [.int .i64 a1_1, .int .i64 a1_2, .int .i64 (wrap64 (a0_0 + a1_3))]) (ok := fun _ => True) (okp := fun _ => True) ?hr ?hp (fun _ hk => hk) trivial (Below.refl _ _) (Nat.le_refl _) (by simp) ?_; (case hd => rfl); (case hg => rfl); (case hr => exact zH89); (case hp => exact zH19)
      intro v159 w50 ho51 hb hg_ hnew_
      clear hg_ hnew_
      (first | rw [← Ny158.out] at ho51 | (simp only [Int.reduceToNat] at ho51; rw [← Ny158.out] at ho51))
      obtain ⟨n0_, n1_, n2_, n3_, n4_, n5_, n6_, n7_⟩ := zD8 (zaj zG84 (zam ho51) hb) (zaj (by (with_reducible repeat (first | apply zm | apply zl | apply zn)); exact HO154.out) (zam ho51) hb) (zag (zap (zap (zba (M := fun k_ => (P0_3_ k_ ∨ w.heap.size ≤ k_)) ho51 zG58 (fun k_ h_ => .inr h_)) (zan zG84)) (zan (by (with_reducible repeat (first | apply zm | apply zl | apply zn)); exact HO154.out))) (zs zG60)) (zq (g := gb146) (o := .cells #[.int .i64 a0_0, .int .i64 (wrap64 (a0_1 - a1_2)), .int .i64 a0_2, .slice Ao5 l0_3.length co5] 30 (0, 0)) zG79 hb) (zq (g := gb147) (o := .cells #[.int .i64 a1_0, .int .i64 a1_1, .int .i64 a1_2, .int .i64 a1_3] 54 (0, 0)) zG80 hb) (zq (g := gb148) (o := .cells #[.int .i64 0, .int .i64 0, .int .i64 0, .slice none 0 0] 30 (0, 0)) zG81 hb) (Kept.below (S := (fun k_ => P0_3_ k_)) zG59 hb) (zt zG60 hb)
      clear HO_147003 HO154 BK146 BK147 BK148 HK HB
      have HO_147003 := n0_
      have HO154 := n1_
      have HO160 := n2_
      have BK146 := n3_
      have BK147 := n4_
      have BK148 := n5_
      have HK := n6_
      have HB := n7_
      clear n0_ n1_ n2_ n3_ n4_ n5_ n6_ n7_
      clear hb ho51
      refine hK.out _ _ ⟨(zc BK146.out 0).trans rfl, (zc BK146.out 1).trans rfl, (zc BK146.out 2).trans rfl, (zc BK146.out 3).trans rfl, (zc BK147.out 0).trans rfl, (zc BK147.out 1).trans rfl, (zc BK147.out 2).trans rfl, (zc BK147.out 3).trans rfl⟩ (fun hHeld => ?_)
      clear hK K
      refine norm_ (a' := ?_) ?_ ?_
      rotate_left
      ·show Act.put _ (some 57) _ = _
       simp only [Act.put, List.setIfInBounds_toArray, List.set_cons_zero, List.set_cons_succ, i64_w, i32_w]
       rfl
      refine one_ (i := 3) (N := some 46) b4A0 rfl rfl (one_of HT_.out zG88) zG89 (fun K hK => ?_)
      refine zaz k36 (w0 := w0) w0.heap.size (by rfl) (.tmp 43) (.tmp 45) 28 36 (.agg #[(.int .i64 0), (.int .i64 0), (.int .i64 0)]) 24 rfl Try.underlying28 info36 rfl zG89 (by omega) v153 y152 l0_3 _ _ _ (fun k_ => (P0_3_ k_ ∨ w.heap.size ≤ k_) ∧ some k_ ≠ (.slice Ao5 l0_3.length co5 : Value).ownBlock ∧ some k_ ≠ (v159 : Value).ownBlock) (fun _ => False) rfl rfl ?aO ?aR (fun _ _ h => h) (fun _ h => h.elim) ?aF ?aB ?aS ?aL ?_
      (case aR => exact zH46)
      (case aB => exact zG60)
      (case aF => exact zH24)
      (case aO => exact zH50)
      (case aS => exact (zs zG60))
      (case aL => have := LMc39.out; omega)
      intro v156 w52 ho hb hg hat
      rw [← Ny155.out] at ho
      obtain ⟨n0_, n1_, n2_, n3_, n4_, n5_, n6_, n7_⟩ := zD8 (zbc (ok := (fun k_ => (P0_3_ k_ ∨ w.heap.size ≤ k_) ∧ some k_ ≠ (v159 : Value).ownBlock)) (by (with_reducible repeat (first | apply zm | apply zl | apply zn)); exact zr HO_147003.out (fun _ hk => ⟨⟨hk.1.1, hk.2⟩, hk.1.2⟩)) hg hat) (zaf (g := gb146) (o := .cells #[.int .i64 a0_0, .int .i64 (wrap64 (a0_1 - a1_2)), .int .i64 a0_2, .slice Ao5 l0_3.length co5] 30 (0, 0)) zG79 hg (zac HO154.out BK146.out zG89)) (zaf (g := gb147) (o := .cells #[.int .i64 a1_0, .int .i64 a1_1, .int .i64 a1_2, .int .i64 a1_3] 54 (0, 0)) zG80 hg (zac HO154.out BK147.out zG89)) (zaf (g := gb148) (o := .cells #[.int .i64 0, .int .i64 0, .int .i64 0, .slice none 0 0] 30 (0, 0)) zG81 hg (zac HO154.out BK148.out zG89)) (zbc (ok := (fun k_ => (P0_3_ k_ ∨ w.heap.size ≤ k_) ∧ some k_ ≠ (.slice Ao5 l0_3.length co5 : Value).ownBlock)) zK148 hg hat) (hb) (zal (S := (fun k_ => P0_3_ k_)) hg zG59 (fun k_ e_ => (HO154.out.1 k_ e_).1.1.1)) (ho)
      clear HO_147003 BK146 BK147 BK148 HO160 HB HK HO154
      have HO_147003 := n0_
      have BK146 := n1_
      have BK147 := n2_
      have BK148 := n3_
      have HO160 := n4_
      have HB := n5_
      have HK := n6_
      have HO157 := n7_
      clear n0_ n1_ n2_ n3_ n4_ n5_ n6_ n7_
      clear ho hb hg hat
      refine hK.out _ _ ⟨(zc BK146.out 0).trans rfl, (zc BK146.out 1).trans rfl, (zc BK146.out 2).trans rfl, (zc BK146.out 3).trans rfl, (zc BK147.out 0).trans rfl, (zc BK147.out 1).trans rfl, (zc BK147.out 2).trans rfl, (zc BK147.out 3).trans rfl⟩ (fun hHeld => ?_)
      clear hK K
      refine norm_ (a' := ?_) ?_ ?_
      rotate_left
      ·show Act.put _ (some 46) _ = _
       simp only [Act.put, List.setIfInBounds_toArray, List.set_cons_zero, List.set_cons_succ, i64_w, i32_w]
       rfl
      exact norm_ zK159 (hCont (v153, v156, v159) _ ⟨hHeld, zK149, zK150, zK146, zG79, zG80, zG81, zG59, zG60⟩)
    ·skip
     refine zbe k36 _ 36 ?hg (N := 57) ?hd (xs := ([(⟨a1_1, a1_2, wrap64 (a0_0 + a1_3)⟩ : S36)] : List (S36))) (inner := [.int .i64 a1_1, .int .i64 a1_2, .int .i64 (wrap64 (a0_0 + a1_3))]) (ok := fun _ => True) (okp := fun _ => True) ?hr ?hp (fun _ hk => hk) trivial (Below.refl _ _) (Nat.le_refl _) (by simp) ?_; (case hd => rfl); (case hg => rfl); (case hr => exact zH89); (case hp => exact zH19)
     intro v159 w48 ho49 hb hg_ hnew_
     clear hg_ hnew_
     (first | rw [← Ny158.out] at ho49 | (simp only [Int.reduceToNat] at ho49; rw [← Ny158.out] at ho49))
     obtain ⟨n0_, n1_, n2_, n3_, n4_, n5_, n6_⟩ := zD7 (zaj zG84 (zam ho49) hb) (zag (zap (zba (M := fun k_ => (P0_3_ k_ ∨ w.heap.size ≤ k_)) ho49 zG58 (fun k_ h_ => .inr h_)) (zan zG84)) (zs zG60)) (zq (g := gb146) (o := .cells #[.int .i64 a0_0, .int .i64 (wrap64 (a0_1 - a1_2)), .int .i64 a0_2, .slice Ao5 l0_3.length co5] 30 (0, 0)) zG79 hb) (zq (g := gb147) (o := .cells #[.int .i64 a1_0, .int .i64 a1_1, .int .i64 a1_2, .int .i64 a1_3] 54 (0, 0)) zG80 hb) (zq (g := gb148) (o := .cells #[.int .i64 0, .int .i64 0, .int .i64 0, .slice none 0 0] 30 (0, 0)) zG81 hb) (Kept.below (S := (fun k_ => P0_3_ k_)) zG59 hb) (zt zG60 hb)
     clear HO_147003 BK146 BK147 BK148 HK HB
     have HO_147003 := n0_
     have HO160 := n1_
     have BK146 := n2_
     have BK147 := n3_
     have BK148 := n4_
     have HK := n5_
     have HB := n6_
     clear n0_ n1_ n2_ n3_ n4_ n5_ n6_
     clear hb ho49
     refine hK.out _ _ ⟨(zc BK146.out 0).trans rfl, (zc BK146.out 1).trans rfl, (zc BK146.out 2).trans rfl, (zc BK146.out 3).trans rfl, (zc BK147.out 0).trans rfl, (zc BK147.out 1).trans rfl, (zc BK147.out 2).trans rfl, (zc BK147.out 3).trans rfl⟩ (fun hHeld => ?_)
     clear hK K
     refine norm_ (a' := ?_) ?_ ?_
     rotate_left
     ·show Act.put _ (some 57) _ = _
      simp only [Act.put, List.setIfInBounds_toArray, List.set_cons_zero, List.set_cons_succ, i64_w, i32_w]
      rfl
     refine one_ (i := 0) (N := some 43) b4A1 rfl rfl (one_of HT_.out zG88) zG89 (fun K hK => ?_)
     refine zbe k36 _ 36 ?hg (N := 43) ?hd (xs := ([] : List (S36))) (inner := []) (ok := fun _ => True) (okp := fun _ => True) ?hr ?hp (fun _ hk => hk) trivial (Below.refl _ _) (Nat.le_refl _) (by simp) ?_; (case hd => rfl); (case hg => rfl); (case hr => exact zH89); (case hp => exact (Reps.none _ _))
     intro v153 w50 ho51 hb hg_ hnew_
     clear hg_ hnew_
     (first | rw [← Ny152.out] at ho51 | (simp only [Int.reduceToNat] at ho51; rw [← Ny152.out] at ho51))
     obtain ⟨n0_, n1_, n2_, n3_, n4_, n5_, n6_, n7_⟩ := zD8 (zaj zG84 (zam ho51) hb) (zaj (by (with_reducible repeat (first | apply zm | apply zl | apply zn)); exact HO160.out) (zam ho51) hb) (zag (zap (zap (zba (M := fun k_ => (P0_3_ k_ ∨ w.heap.size ≤ k_)) ho51 zG58 (fun k_ h_ => .inr h_)) (zan zG84)) (zan (by (with_reducible repeat (first | apply zm | apply zl | apply zn)); exact HO160.out))) (zs zG60)) (zq (g := gb146) (o := .cells #[.int .i64 a0_0, .int .i64 (wrap64 (a0_1 - a1_2)), .int .i64 a0_2, .slice Ao5 l0_3.length co5] 30 (0, 0)) zG79 hb) (zq (g := gb147) (o := .cells #[.int .i64 a1_0, .int .i64 a1_1, .int .i64 a1_2, .int .i64 a1_3] 54 (0, 0)) zG80 hb) (zq (g := gb148) (o := .cells #[.int .i64 0, .int .i64 0, .int .i64 0, .slice none 0 0] 30 (0, 0)) zG81 hb) (Kept.below (S := (fun k_ => P0_3_ k_)) zG59 hb) (zt zG60 hb)
     clear HO_147003 HO160 BK146 BK147 BK148 HK HB
     have HO_147003 := n0_
     have HO160 := n1_
     have HO154 := n2_
     have BK146 := n3_
     have BK147 := n4_
     have BK148 := n5_
     have HK := n6_
     have HB := n7_
     clear n0_ n1_ n2_ n3_ n4_ n5_ n6_ n7_
     clear hb ho51
     refine hK.out _ _ ⟨(zc BK146.out 0).trans rfl, (zc BK146.out 1).trans rfl, (zc BK146.out 2).trans rfl, (zc BK146.out 3).trans rfl, (zc BK147.out 0).trans rfl, (zc BK147.out 1).trans rfl, (zc BK147.out 2).trans rfl, (zc BK147.out 3).trans rfl⟩ (fun hHeld => ?_)
     clear hK K
     refine norm_ (a' := ?_) ?_ ?_
     rotate_left
     ·show Act.put _ (some 43) _ = _
      simp only [Act.put, List.setIfInBounds_toArray, List.set_cons_zero, List.set_cons_succ, i64_w, i32_w]
      rfl
     refine one_ (i := 3) (N := some 46) b4A0 rfl rfl (one_of HT_.out zG88) zG89 (fun K hK => ?_)
     refine zaz k36 (w0 := w0) w0.heap.size (by rfl) (.tmp 43) (.tmp 45) 28 36 (.agg #[(.int .i64 0), (.int .i64 0), (.int .i64 0)]) 24 rfl Try.underlying28 info36 rfl zG89 (by omega) v153 y152 l0_3 _ _ _ (fun k_ => (P0_3_ k_ ∨ w.heap.size ≤ k_) ∧ some k_ ≠ (.slice Ao5 l0_3.length co5 : Value).ownBlock ∧ some k_ ≠ (v159 : Value).ownBlock) (fun _ => False) rfl rfl ?aO ?aR (fun _ _ h => h) (fun _ h => h.elim) ?aF ?aB ?aS ?aL ?_
     (case aR => exact zH46)
     (case aB => exact zG60)
     (case aF => exact zH24)
     (case aO => exact zH50)
     (case aS => exact (zs zG60))
     (case aL => have := LMc39.out; omega)
     intro v156 w52 ho hb hg hat
     rw [← Ny155.out] at ho
     obtain ⟨n0_, n1_, n2_, n3_, n4_, n5_, n6_, n7_⟩ := zD8 (zbc (ok := (fun k_ => (P0_3_ k_ ∨ w.heap.size ≤ k_) ∧ some k_ ≠ (v159 : Value).ownBlock)) zG84 hg hat) (zaf (g := gb146) (o := .cells #[.int .i64 a0_0, .int .i64 (wrap64 (a0_1 - a1_2)), .int .i64 a0_2, .slice Ao5 l0_3.length co5] 30 (0, 0)) zG79 hg (zac HO154.out BK146.out zG89)) (zaf (g := gb147) (o := .cells #[.int .i64 a1_0, .int .i64 a1_1, .int .i64 a1_2, .int .i64 a1_3] 54 (0, 0)) zG80 hg (zac HO154.out BK147.out zG89)) (zaf (g := gb148) (o := .cells #[.int .i64 0, .int .i64 0, .int .i64 0, .slice none 0 0] 30 (0, 0)) zG81 hg (zac HO154.out BK148.out zG89)) (zbc (ok := (fun k_ => (P0_3_ k_ ∨ w.heap.size ≤ k_) ∧ some k_ ≠ (.slice Ao5 l0_3.length co5 : Value).ownBlock)) zK148 hg hat) (hb) (zal (S := (fun k_ => P0_3_ k_)) hg zG59 (fun k_ e_ => (HO154.out.1 k_ e_).1.1.1)) (ho)
     clear HO_147003 BK146 BK147 BK148 HO160 HB HK HO154
     have HO_147003 := n0_
     have BK146 := n1_
     have BK147 := n2_
     have BK148 := n3_
     have HO160 := n4_
     have HB := n5_
     have HK := n6_
     have HO157 := n7_
     clear n0_ n1_ n2_ n3_ n4_ n5_ n6_ n7_
     clear ho hb hg hat
     refine hK.out _ _ ⟨(zc BK146.out 0).trans rfl, (zc BK146.out 1).trans rfl, (zc BK146.out 2).trans rfl, (zc BK146.out 3).trans rfl, (zc BK147.out 0).trans rfl, (zc BK147.out 1).trans rfl, (zc BK147.out 2).trans rfl, (zc BK147.out 3).trans rfl⟩ (fun hHeld => ?_)
     clear hK K
     refine norm_ (a' := ?_) ?_ ?_
     rotate_left
     ·show Act.put _ (some 46) _ = _
      simp only [Act.put, List.setIfInBounds_toArray, List.set_cons_zero, List.set_cons_succ, i64_w, i32_w]
      rfl
     exact norm_ zK159 (hCont (v153, v156, v159) _ ⟨hHeld, zK149, zK150, zK146, zG79, zG80, zG81, zG59, zG60⟩)
   rintro ⟨v153, v156, v159⟩ w53 ⟨hS_, h0_, h1_, h2_, h3_, h4_, h5_, h6_, h7_⟩
   have n0_ : Aside0 (Kd.R k36 36 w53 w0.heap.size (fun k_ => (P0_3_ k_ ∨ w.heap.size ≤ k_) ∧ some k_ ≠ (v159 : Value).ownBlock ∧ some k_ ≠ (.slice Ao5 l0_3.length co5 : Value).ownBlock) v156 y155) := ⟨h0_⟩
   have n1_ : Aside0 (Kd.R k36 36 w53 w0.heap.size (fun k_ => (P0_3_ k_ ∨ w.heap.size ≤ k_) ∧ some k_ ≠ (v156 : Value).ownBlock ∧ some k_ ≠ (.slice Ao5 l0_3.length co5 : Value).ownBlock) v159 y158) := ⟨h1_⟩
   have n2_ : Aside0 (Kd.R k36 36 w53 w0.heap.size (fun k_ => (P0_3_ k_ ∨ w.heap.size ≤ k_) ∧ some k_ ≠ (v156 : Value).ownBlock ∧ some k_ ≠ (v159 : Value).ownBlock) (.slice Ao5 l0_3.length co5) l0_3) := ⟨h2_⟩
   have n3_ : Aside0 (w53.heap[gb146]? = some (.cells #[.int .i64 a0_0, .int .i64 (wrap64 (a0_1 - a1_2)), .int .i64 a0_2, .slice Ao5 l0_3.length co5] 30 (0, 0))) := ⟨h3_⟩
   have n4_ : Aside0 (w53.heap[gb147]? = some (.cells #[.int .i64 a1_0, .int .i64 a1_1, .int .i64 a1_2, .int .i64 a1_3] 54 (0, 0))) := ⟨h4_⟩
   have n5_ : Aside0 (w53.heap[gb148]? = some (.cells #[.int .i64 0, .int .i64 0, .int .i64 0, .slice none 0 0] 30 (0, 0))) := ⟨h5_⟩
   have n6_ : Aside0 (Kept w w53 (fun k_ => P0_3_ k_)) := ⟨h6_⟩
   have n7_ : Aside0 (Below w0.heap.size w0 w53) := ⟨h7_⟩
   clear HO_147003
   clear BK146
   clear BK147
   clear BK148
   clear HK
   clear HB
   clear h0_ h1_ h2_ h3_ h4_ h5_ h6_ h7_
   have HO157 := n0_
   have HO160 := n1_
   have HO_147003 := n2_
   have BK146 := n3_
   have BK147 := n4_
   have BK148 := n5_
   have HK := n6_
   have HB := n7_
   clear n0_ n1_ n2_ n3_ n4_ n5_ n6_ n7_
   have hHeld : w53.cell? ⟨gb146, 0, none⟩ = some (.int .i64 a0_0) ∧ w53.cell? ⟨gb146, 1, none⟩ = some (.int .i64 (wrap64 (a0_1 - a1_2))) ∧ w53.cell? ⟨gb146, 2, none⟩ = some (.int .i64 a0_2) ∧ w53.cell? ⟨gb146, 3, none⟩ = some (.slice Ao5 l0_3.length co5) ∧ w53.cell? ⟨gb147, 0, none⟩ = some (.int .i64 a1_0) ∧ w53.cell? ⟨gb147, 1, none⟩ = some (.int .i64 a1_1) ∧ w53.cell? ⟨gb147, 2, none⟩ = some (.int .i64 a1_2) ∧ w53.cell? ⟨gb147, 3, none⟩ = some (.int .i64 a1_3) := hS_
   obtain ⟨Ao55, co55, eo55⟩ := zaa HO160.out
   (first | subst eo55 | (injection eo55 with f1_ f2_ f3_; have f4_ := f1_.symm; have f5_ := f3_.symm; clear f1_ f2_ f3_; subst f4_; subst f5_))
   refine norm_ (a' := ?_) ?_ ?_
   rotate_left
   ·simp only [putAll, Act.put, List.setIfInBounds_toArray, List.set_cons_zero, List.set_cons_succ]
    rfl
   refine one_ (i := 15) (N := some 58) #[true, true, true, true, true, true, true, true, true, true, true, true, true, true, true, true, false, false] rfl rfl (one_of HT_.out zG88) zG89 (fun K hK => ?_)
   refine zaz k36 (w0 := w0) w0.heap.size (by rfl) (.tmp 46) (.tmp 57) 28 36 (.agg #[(.int .i64 0), (.int .i64 0), (.int .i64 0)]) 24 rfl Try.underlying28 info36 rfl zG89 (by omega) v156 y155 y158 _ _ _ (fun k_ => (P0_3_ k_ ∨ w.heap.size ≤ k_) ∧ some k_ ≠ (.slice Ao5 l0_3.length co5 : Value).ownBlock ∧ some k_ ≠ (.slice Ao55 y158.length co55 : Value).ownBlock) (fun _ => False) rfl rfl ?aO ?aR (fun _ _ h => h) (fun _ h => h.elim) ?aF ?aB ?aS ?aL ?_
   (case aR => repeat (first | exact (q4a HO160.out).2.2 | (with_reducible refine zy ?_ _) | (with_reducible refine zz ?_ _) | (with_reducible refine zab ?_)))
   (case aB => exact zG60)
   (case aF => exact zH24)
   (case aO => exact zK149)
   (case aS => exact (zs zG60))
   (case aL => have := LMc40.out; omega)
   intro v162 w54 ho hb hg hat
   rw [← Ny161.out] at ho
   obtain ⟨n0_, n1_, n2_, n3_, n4_, n5_, n6_, n7_⟩ := zD8 (zbc (ok := (fun k_ => (P0_3_ k_ ∨ w.heap.size ≤ k_) ∧ some k_ ≠ (.slice Ao55 y158.length co55 : Value).ownBlock)) (by (with_reducible repeat (first | apply zm | apply zl | apply zn)); exact zr HO_147003.out (fun _ hk => ⟨⟨hk.1, hk.2.2⟩, hk.2.1⟩)) hg hat) (zaf (g := gb146) (o := .cells #[.int .i64 a0_0, .int .i64 (wrap64 (a0_1 - a1_2)), .int .i64 a0_2, .slice Ao5 l0_3.length co5] 30 (0, 0)) zG79 hg (zac HO157.out BK146.out zG89)) (zaf (g := gb147) (o := .cells #[.int .i64 a1_0, .int .i64 a1_1, .int .i64 a1_2, .int .i64 a1_3] 54 (0, 0)) zG80 hg (zac HO157.out BK147.out zG89)) (zaf (g := gb148) (o := .cells #[.int .i64 0, .int .i64 0, .int .i64 0, .slice none 0 0] 30 (0, 0)) zG81 hg (zac HO157.out BK148.out zG89)) (zbc (ok := (fun k_ => (P0_3_ k_ ∨ w.heap.size ≤ k_) ∧ some k_ ≠ (.slice Ao5 l0_3.length co5 : Value).ownBlock)) (by (with_reducible repeat (first | apply zm | apply zl | apply zn)); exact zr HO160.out (fun _ hk => ⟨⟨hk.1, hk.2.2⟩, hk.2.1⟩)) hg hat) (hb) (zal (S := (fun k_ => P0_3_ k_)) hg zG59 (fun k_ e_ => (HO157.out.1 k_ e_).1)) (ho)
   clear HO_147003 BK146 BK147 BK148 HO160 HB HK HO157
   have HO_147003 := n0_
   have BK146 := n1_
   have BK147 := n2_
   have BK148 := n3_
   have HO160 := n4_
   have HB := n5_
   have HK := n6_
   have HO163 := n7_
   clear n0_ n1_ n2_ n3_ n4_ n5_ n6_ n7_
   clear ho hb hg hat
   obtain ⟨Ao56, co56, eo56⟩ := zaa HO163.out
   (first | subst eo56 | (injection eo56 with f1_ f2_ f3_; have f4_ := f1_.symm; have f5_ := f3_.symm; clear f1_ f2_ f3_; subst f4_; subst f5_))
   refine hK.out _ _ ⟨(zc BK146.out 0).trans rfl, (zc BK146.out 1).trans rfl, (zc BK146.out 2).trans rfl, (zc BK146.out 3).trans rfl, (zc BK147.out 0).trans rfl, (zc BK147.out 1).trans rfl, (zc BK147.out 2).trans rfl, (zc BK147.out 3).trans rfl⟩ (fun hHeld => ?_)
   clear hK K
   refine norm_ (a' := ?_) ?_ ?_
   rotate_left
   ·show Act.put _ (some 58) _ = _
    simp only [Act.put, List.setIfInBounds_toArray, List.set_cons_zero, List.set_cons_succ, i64_w, i32_w]
    rfl
   refine zP 16 59 #[true, true, true, true, true, true, true, true, true, true, true, true, true, true, true, true, true, false] HT_ ?_
   refine last_ (i := 17) (N := none) #[true, true, true, true, true, true, true, true, true, true, true, true, true, true, true, true, true, true] rfl rfl (one_of HT_.out zG88) zG89 (fun K hK => ?_)
   have hs57 : w54.cell? ⟨gb146, 3, none⟩ = some (.slice Ao5 l0_3.length co5) := (zc BK146.out 3).trans rfl
   have hfs57 := ze BK146.out 3
   have hns57_1 := NB147_146.out
   have hns57_2 := NB148_146.out
   have hms57_1 := NB146_147.out
   have hms57_2 := NB146_148.out
   refine skip_ (w1 := ?_) (by rfl) rfl ?_ ?_
   rotate_left
   ·go_simp
    rfl
   refine hK.out _ _ ?_
   clear hK K
   refine done_ (done_of HT_.out zG88) ?_
   obtain ⟨hcz58_0, hcz58_1, hcz58_2, hcz58_3, hfz58_0, hfz58_1, hfz58_2, hfz58_3⟩ := zB4 BK146.out
   obtain ⟨hcz59_0, hcz59_1, hcz59_2, hcz59_3, hfz59_0, hfz59_1, hfz59_2, hfz59_3⟩ := zB4 BK148.out
   try go_wp2
   refine bodyPost_ret (results_ct rfl _ _ gb148 30 #[.int .i64 a0_0, .int .i64 (wrap64 (a0_1 - a1_2)), .int .i64 a0_2, .slice Ao56 y161.length co56] (0, 0) _ rfl (by (with_reducible repeat (first | refine zd ?_ _ | refine zg ?_ | refine zb ?_ _)); refine zu (cs := #[.int .i64 a0_0, .int .i64 (wrap64 (a0_1 - a1_2)), .int .i64 a0_2, .slice none 0 0]) ?_ 3 _ rfl; (with_reducible repeat (first | refine zd ?_ _ | refine zg ?_ | refine zb ?_ _)); refine zu (cs := #[.int .i64 a0_0, .int .i64 (wrap64 (a0_1 - a1_2)), .int .i64 0, .slice none 0 0]) ?_ 2 _ rfl; (with_reducible repeat (first | refine zd ?_ _ | refine zg ?_ | refine zb ?_ _)); refine zu (cs := #[.int .i64 a0_0, .int .i64 0, .int .i64 0, .slice none 0 0]) ?_ 1 _ rfl; (with_reducible repeat (first | refine zd ?_ _ | refine zg ?_ | refine zb ?_ _)); refine zu (cs := #[.int .i64 0, .int .i64 0, .int .i64 0, .slice none 0 0]) ?_ 0 _ rfl; (with_reducible repeat (first | refine zd ?_ _ | refine zg ?_ | refine zb ?_ _)); refine zv ?_ NB148_146.out _; (with_reducible repeat (first | refine zd ?_ _ | refine zg ?_ | refine zb ?_ _)); exact BK148.out) Try.underlying30 rfl zG88) rfl ?_
   exact ⟨_, zH78, by (with_reducible repeat (first | apply zm | apply zl | apply zn)); exact zr (zo (p := ⟨gb148, 3, none⟩) (zo (p := ⟨gb148, 2, none⟩) (zo (p := ⟨gb148, 1, none⟩) (zo (p := ⟨gb148, 0, none⟩) (zo (p := ⟨gb146, 3, none⟩) (zw (zw HO163.out BK146.out zG89) BK148.out zG89) (fun _ hk => hk.1.2) (.slice Ao56 y161.length co56)) (fun _ hk => hk.2) (.int .i64 a0_0)) (fun _ hk => hk.2) (.int .i64 (wrap64 (a0_1 - a1_2)))) (fun _ hk => hk.2) (.int .i64 a0_2)) (fun _ hk => hk.2) (.slice Ao56 y161.length co56)) (fun _ hk => hk.1.1.1), zH28, zH17⟩
end Go.Proofs.Ytdohpbhljifodaa.C
