-- squeezed
-- made by pp.py (wip/tools) out of the translation; Lean checks it
import Derived.Test.YtoibmbkmpadmnaaG0
import Derived.Test.YtoibmbkmpadmnaaG5
namespace Go.Proofs.Ytoibmbkmpadmnaa.G
open Go.RowKit Go.Proofs.YtoibmbkmpadmnaaW.PrintWords Go.Proofs.YtoibmbkmpadmnaaW.PrintLast Go.Proofs.YtoibmbkmpadmnaaW.PrintMore
attribute [local go_sem] max2_int min2_int max_two min_two max_three min_three max_four min_four   -- for this text's walks alone
set_option linter.unusedVariables false
set_option linter.unusedSimpArgs false

abbrev q6a := @blk_cell
/-! ### laws_szEventS: function 10 -/
def laws_szEventS.l0 : Nat → List (S59) → Int → Int → Option (Int)
 | 0, _, _, _ => none
 | k + 1, x0, x1, x5 => if x5 < (x0.length : Int) then (if 0 ≤ x5 then ((laws_szEvent.f ((rd_T59 x0 x5).f0) ((rd_T59 x0 x5).f1) ((rd_T59 x0 x5).f2) ((rd_T59 x0 x5).f3) ((rd_T59 x0 x5).f4) ((rd_T59 x0 x5).f5) x1).bind fun t137 => (if t137 < 0 then (some (-1)) else (laws_szEventS.l0 k x0 t137 (wrap64 (x5 + 1))))) else (none)) else (some x1)
def laws_szEventS.f (k : Nat) (l0 : List (S59)) (a1 : Int) : Option (Int) := if (wrap64 (a1 - (l0.length : Int))) < 0 then (some (-1)) else (laws_szEventS.l0 k l0 (wrap64 (a1 - (l0.length : Int))) 0)
theorem laws_szEventS.mono_l : ∀ k, (∀ y0 y1 y2, LeO (laws_szEventS.l0 k y0 y1 y2) (laws_szEventS.l0 (k + 1) y0 y1 y2))
 | 0 => fun _ _ _ r h => by simp [laws_szEventS.l0] at h
 | k + 1 => by
  have ih0 := laws_szEventS.mono_l k
  ·intro y0 y1 y2
   unfold laws_szEventS.l0
   repeat' first
   | (with_reducible exact ih0 _ _ _)
   | (with_reducible exact LeO.refl _)
   | (with_reducible exact LeO.none _)
   | (with_reducible refine LeO.ite ?_ ?_)
   | (with_reducible refine LeO.bind ?_ (fun _ => ?_))
   | exact ih0 _ _ _
   | exact LeO.none _
   | refine LeO.ite ?_ ?_
   | refine LeO.bind ?_ (fun _ => ?_)
theorem laws_szEventS.mono : ∀ a0 a1 k, LeO (laws_szEventS.f k a0 a1) (laws_szEventS.f (k + 1) a0 a1) := by
 intro a0 a1 k
 have ih0 := laws_szEventS.mono_l k
 unfold laws_szEventS.f
 repeat' first
   | (with_reducible exact ih0 _ _ _)
   | (with_reducible exact LeO.refl _)
   | (with_reducible exact LeO.none _)
   | (with_reducible refine LeO.ite ?_ ?_)
   | (with_reducible refine LeO.bind ?_ (fun _ => ?_))
   | exact ih0 _ _ _
   | exact LeO.none _
   | refine LeO.ite ?_ ?_
   | refine LeO.bind ?_ (fun _ => ?_)
set_option maxHeartbeats 64000000 in
set_option maxRecDepth 100000 in
theorem laws_szEventS.calls (k : Nat) (A0 : Option Addr) (c0 : Nat) (l0 : List (S59)) (a1 : Int) (r : Int) (w : World) (hr0 : Kd.C k59 w A0 l0.length l0) (hc0 : l0.length ≤ c0) (h : laws_szEventS.f k l0 a1 = some r) :
  Calls Try.prog 10 #[.slice A0 l0.length c0, .int .i64 a1] w fun e w' => e = .returned (.int .i64 r) ∧ Below w.heap.size w w' := by
 have hu59 := Try.underlying59
 obtain ⟨HR0, HC0, HB⟩ := zD3 hr0 hc0 (Below.refl w.heap.size w)
 clear hr0 hc0
 have H : (if (wrap64 (a1 - (l0.length : Int))) < 0 then (some (-1)) else (laws_szEventS.l0 k l0 (wrap64 (a1 - (l0.length : Int))) 0)) = some r := h
 clear h
 by_cases c3 : (wrap64 (a1 - (l0.length : Int))) < 0
 ·rw [if_pos c3] at H
  have c3b0 := decide_eq_true c3
  clear c3
  obtain rfl := Option.some.inj H
  go_enter Try.func10, Try.ntmps10
  go_wp2
  go_ret
  exact zH32
 rw [if_neg c3] at H
 have c3b0 := decide_eq_false c3
 clear c3
 have H' := zb H
 clear H
 go_enter Try.func10, Try.ntmps10
 go_wp2
 go_loopg [1, 5] k (fun kq v1 v5 w' => ∃ (x1_1 : Int) (x5_1 : Int), v1 = .int .i64 x1_1 ∧ v5 = .int .i64 x5_1 ∧ Aside0 (laws_szEventS.l0 kq l0 x1_1 x5_1 = some r) ∧ Aside0 (kq ≤ k) ∧ Aside0 (Below w.heap.size w w'))
 case atStart => exact ⟨(wrap64 (a1 - (l0.length : Int))), (0), zG74, zG74, H', ⟨Nat.le_refl _⟩, ⟨zH82⟩⟩
 case round =>
  clear H'
  try clear c3
  try clear c3b0
  obtain ⟨x1_1, x5_1, rfl, rfl, HA, HK1, HB⟩ := hrel
  cases gk with
  | zero => exact absurd HA.out (by simp [laws_szEventS.l0])
  | succ k1 =>
   have H := HA.out
   clear HA
   simp only [laws_szEventS.l0] at H
   by_cases c4 : x5_1 < (l0.length : Int)
   rotate_left
   ·rw [if_neg c4] at H
    have c4b0 := decide_eq_false c4
    clear c4
    obtain rfl := Option.some.inj H
    go_wp2
    go_ret
    exact zH32

   rw [if_pos c4] at H
   have c4b0 := decide_eq_true c4
   clear c4
   by_cases c5 : 0 ≤ x5_1
   rotate_left
   ·rw [if_neg c5] at H
    exact absurd H (by simp)
   rw [if_pos c5] at H
   have c5b0 := decide_eq_true c5
   clear c5
   replace H := Option.bind_eq_some_iff.mp H
   obtain ⟨t137, A60, H⟩ := H
   replace H : (if t137 < 0 then (some (-1)) else (laws_szEventS.l0 k1 l0 t137 (wrap64 (x5_1 + 1)))) = some r := H
   have A6 := zb A60
   clear A60
   by_cases c7 : t137 < 0
   ·rw [if_pos c7] at H
    have c7b0 := decide_eq_true c7
    clear c7
    obtain rfl := Option.some.inj H
    have p136 : 0 ≤ (x5_1 : Int) := zO
    have q136 : x5_1 < (l0.length : Int) := zO
    obtain ⟨ad136, e136, hx136_0, hx136_1, hx136_2, hx136_3, hx136_4, hx136_5⟩ := at_T59 HR0.out x5_1 p136 q136
    cases e136
    replace hx136_0 := (HB.out.cell (za w _ hx136_0)).trans hx136_0
    replace hx136_1 := (HB.out.cell (za w _ hx136_1)).trans hx136_1
    replace hx136_2 := (HB.out.cell (za w _ hx136_2)).trans hx136_2
    replace hx136_3 := (HB.out.cell (za w _ hx136_3)).trans hx136_3
    replace hx136_4 := (HB.out.cell (za w _ hx136_4)).trans hx136_4
    replace hx136_5 := (HB.out.cell (za w _ hx136_5)).trans hx136_5
    replace p136 := eq_true p136
    replace q136 := eq_true q136
    go_wp2_with (first | ((with_reducible refine gate_callee (f := 27) rfl ?_); refine goesL_ (some 23) rfl rfl Try.func27 zG75 rfl #[.agg #[.int .i64 ((rd_T59 l0 x5_1).f0), .int .i64 ((rd_T59 l0 x5_1).f1), .int .i64 ((rd_T59 l0 x5_1).f2), .int .i64 ((rd_T59 l0 x5_1).f3), .string ((rd_T59 l0 x5_1).f4), .int .i64 ((rd_T59 l0 x5_1).f5)], .int .i64 x1_1] rfl zG55 ?_; (with_reducible refine (laws_szEvent.calls ((rd_T59 l0 x5_1).f0) ((rd_T59 l0 x5_1).f1) ((rd_T59 l0 x5_1).f2) ((rd_T59 l0 x5_1).f3) ((rd_T59 l0 x5_1).f4) ((rd_T59 l0 x5_1).f5) x1_1 t137 _ A6.out).mono ?_); rintro e w8 ⟨rfl, hb⟩; refine ⟨_, rfl, ?_⟩; replace HB := zb (zr zG61 hb); (try clear hb)))
    go_ret
    exact zH32
   rw [if_neg c7] at H
   have c7b0 := decide_eq_false c7
   clear c7
   have H' := zb H
   clear H
   have p136 : 0 ≤ (x5_1 : Int) := zO
   have q136 : x5_1 < (l0.length : Int) := zO
   obtain ⟨ad136, e136, hx136_0, hx136_1, hx136_2, hx136_3, hx136_4, hx136_5⟩ := at_T59 HR0.out x5_1 p136 q136
   cases e136
   replace hx136_0 := (HB.out.cell (za w _ hx136_0)).trans hx136_0
   replace hx136_1 := (HB.out.cell (za w _ hx136_1)).trans hx136_1
   replace hx136_2 := (HB.out.cell (za w _ hx136_2)).trans hx136_2
   replace hx136_3 := (HB.out.cell (za w _ hx136_3)).trans hx136_3
   replace hx136_4 := (HB.out.cell (za w _ hx136_4)).trans hx136_4
   replace hx136_5 := (HB.out.cell (za w _ hx136_5)).trans hx136_5
   replace p136 := eq_true p136
   replace q136 := eq_true q136
   go_wp2_with (first | ((with_reducible refine gate_callee (f := 27) rfl ?_); refine goesL_ (some 23) rfl rfl Try.func27 zG75 rfl #[.agg #[.int .i64 ((rd_T59 l0 x5_1).f0), .int .i64 ((rd_T59 l0 x5_1).f1), .int .i64 ((rd_T59 l0 x5_1).f2), .int .i64 ((rd_T59 l0 x5_1).f3), .string ((rd_T59 l0 x5_1).f4), .int .i64 ((rd_T59 l0 x5_1).f5)], .int .i64 x1_1] rfl zG55 ?_; (with_reducible refine (laws_szEvent.calls ((rd_T59 l0 x5_1).f0) ((rd_T59 l0 x5_1).f1) ((rd_T59 l0 x5_1).f2) ((rd_T59 l0 x5_1).f3) ((rd_T59 l0 x5_1).f4) ((rd_T59 l0 x5_1).f5) x1_1 t137 _ A6.out).mono ?_); rintro e w9 ⟨rfl, hb⟩; refine ⟨_, rfl, ?_⟩; replace HB := zb (zr zG61 hb); (try clear hb)))
   go_roundg k1
   case measure => have := HK1.out; omega
   case rel => exact ⟨(t137), (wrap64 (x5_1 + 1)), zG74, zG74, H', ⟨zH106⟩, ⟨zH82⟩⟩
/-! ### spec_l12Ahead: function 51 -/
def spec_l12Ahead.f (a0_0 : Int) (a0_1 : Int) (a0_2 : Int) (a0_3 : Int) (a0_4 : ByteArray) (a0_5 : Int) (a1_0 : Int) (a1_1 : Int) (a1_2 : Int) (a1_3 : Int) (a1_4 : ByteArray) (a1_5 : Int) : Option (Bool) := if a0_2 = a1_2 then (if a0_0 = a1_0 then (some (decide (a0_1 < a1_1))) else (some (decide (a0_0 < a1_0)))) else (some (decide (a0_2 < a1_2)))
set_option maxHeartbeats 64000000 in
set_option maxRecDepth 100000 in
theorem spec_l12Ahead.calls (a0_0 : Int) (a0_1 : Int) (a0_2 : Int) (a0_3 : Int) (a0_4 : ByteArray) (a0_5 : Int) (a1_0 : Int) (a1_1 : Int) (a1_2 : Int) (a1_3 : Int) (a1_4 : ByteArray) (a1_5 : Int) (r : Bool) (w : World) (h : spec_l12Ahead.f a0_0 a0_1 a0_2 a0_3 a0_4 a0_5 a1_0 a1_1 a1_2 a1_3 a1_4 a1_5 = some r) :
  Calls Try.prog 51 #[.agg #[.int .i64 a0_0, .int .i64 a0_1, .int .i64 a0_2, .int .i64 a0_3, .string a0_4, .int .i64 a0_5], .agg #[.int .i64 a1_0, .int .i64 a1_1, .int .i64 a1_2, .int .i64 a1_3, .string a1_4, .int .i64 a1_5]] w fun e w' => e = .returned (.bool r) ∧ Below w.heap.size w w' := by
 have hu35 := Try.underlying35
 have HB := zb (Below.refl w.heap.size w)
 have H : (if a0_2 = a1_2 then (if a0_0 = a1_0 then (some (decide (a0_1 < a1_1))) else (some (decide (a0_0 < a1_0)))) else (some (decide (a0_2 < a1_2)))) = some r := h
 clear h
 by_cases c3 : a0_2 = a1_2
 rotate_left
 ·rw [if_neg c3] at H
  have c3b0 : (a0_2 == a1_2) = false := beq_eq_false_iff_ne.mpr c3
  have c3b1 : (a0_2 != a1_2) = true := bne_iff_ne.mpr c3
  obtain rfl := Option.some.inj H
  go_enter Try.func51, Try.ntmps51
  go_wp2_with (first | ((with_reducible refine gate_dst (N := 2) rfl ?_); refine box_event ?hg (N := 2) ?hd (cs := #[.int .i64 a0_0, .int .i64 a0_1, .int .i64 a0_2, .int .i64 a0_3, .string a0_4, .int .i64 a0_5]) (t := 35) ?hr ?_; (case hd => rfl); (case hg => rfl); (case hr => exact zH101); intro gb138 hg w15 hbox hb; have n_ := zA_ (zb (zr zG61 hb)) (zA_ (zb (hbox)) (zA_ (zN1 w.heap.size hg (zq zG61)) (zN1 w.heap.size hg (zq zG61)))); clear HB; obtain ⟨HB, BK138, GW138, GE138⟩ := n_; clear hb hbox hg) | ((with_reducible refine gate_dst (N := 3) rfl ?_); refine box_event ?hg (N := 3) ?hd (cs := #[.int .i64 a1_0, .int .i64 a1_1, .int .i64 a1_2, .int .i64 a1_3, .string a1_4, .int .i64 a1_5]) (t := 35) ?hr ?_; (case hd => rfl); (case hg => rfl); (case hr => exact zH101); intro gb139 hg w16 hbox hb; have n_ := zA_ (zb (zt (g := gb138) (o := .cells #[.int .i64 a0_0, .int .i64 a0_1, .int .i64 a0_2, .int .i64 a0_3, .string a0_4, .int .i64 a0_5] 35 (0, 0)) zK156 hb)) (zA_ (zb (zr zK146 hb)) (zA_ (zb (hbox)) (zA_ (zN1 w.heap.size hg (zq zK146)) (zA_ (zN1 w.heap.size hg (zq zK146)) (zN2 hg (zaa (g := gb138) (o := .cells #[.int .i64 a0_0, .int .i64 a0_1, .int .i64 a0_2, .int .i64 a0_3, .string a0_4, .int .i64 a0_5] 35 (0, 0)) zK156)))))); clear BK138 HB; obtain ⟨BK138, HB, BK139, GW139, GE139, NB138_139, NB139_138⟩ := n_; clear hb hbox hg; have hnb17 := NB138_139.out; have hnc17 := NB139_138.out; have hcz18_0 : w16.cell? ⟨gb138, 0, none⟩ = some (.int .i64 a0_0) := (q6a BK138.out 0).trans rfl; have hcz18_1 : w16.cell? ⟨gb138, 1, none⟩ = some (.int .i64 a0_1) := (q6a BK138.out 1).trans rfl; have hcz18_2 : w16.cell? ⟨gb138, 2, none⟩ = some (.int .i64 a0_2) := (q6a BK138.out 2).trans rfl; have hcz18_3 : w16.cell? ⟨gb138, 3, none⟩ = some (.int .i64 a0_3) := (q6a BK138.out 3).trans rfl; have hcz18_4 : w16.cell? ⟨gb138, 4, none⟩ = some (.string a0_4) := (q6a BK138.out 4).trans rfl; have hcz18_5 : w16.cell? ⟨gb138, 5, none⟩ = some (.int .i64 a0_5) := (q6a BK138.out 5).trans rfl; have hfz18_0 := zd BK138.out 0; have hfz18_1 := zd BK138.out 1; have hfz18_2 := zd BK138.out 2; have hfz18_3 := zd BK138.out 3; have hfz18_4 := zd BK138.out 4; have hfz18_5 := zd BK138.out 5; have hcz19_0 : w16.cell? ⟨gb139, 0, none⟩ = some (.int .i64 a1_0) := (q6a BK139.out 0).trans rfl; have hcz19_1 : w16.cell? ⟨gb139, 1, none⟩ = some (.int .i64 a1_1) := (q6a BK139.out 1).trans rfl; have hcz19_2 : w16.cell? ⟨gb139, 2, none⟩ = some (.int .i64 a1_2) := (q6a BK139.out 2).trans rfl; have hcz19_3 : w16.cell? ⟨gb139, 3, none⟩ = some (.int .i64 a1_3) := (q6a BK139.out 3).trans rfl; have hcz19_4 : w16.cell? ⟨gb139, 4, none⟩ = some (.string a1_4) := (q6a BK139.out 4).trans rfl; have hcz19_5 : w16.cell? ⟨gb139, 5, none⟩ = some (.int .i64 a1_5) := (q6a BK139.out 5).trans rfl; have hfz19_0 := zd BK139.out 0; have hfz19_1 := zd BK139.out 1; have hfz19_2 := zd BK139.out 2; have hfz19_3 := zd BK139.out 3; have hfz19_4 := zd BK139.out 4; have hfz19_5 := zd BK139.out 5))
  go_ret
  exact zH20

 rw [if_pos c3] at H
 have c3b0 : (a0_2 == a1_2) = true := beq_iff_eq.mpr c3
 have c3b1 : (a0_2 != a1_2) = false := bne_eq_false_iff_eq.mpr c3
 clear c3
 by_cases c4 : a0_0 = a1_0
 rotate_left
 ·rw [if_neg c4] at H
  have c4b0 : (a0_0 == a1_0) = false := beq_eq_false_iff_ne.mpr c4
  have c4b1 : (a0_0 != a1_0) = true := bne_iff_ne.mpr c4
  obtain rfl := Option.some.inj H
  go_enter Try.func51, Try.ntmps51
  go_wp2_with (first | ((with_reducible refine gate_dst (N := 2) rfl ?_); refine box_event ?hg (N := 2) ?hd (cs := #[.int .i64 a0_0, .int .i64 a0_1, .int .i64 a0_2, .int .i64 a0_3, .string a0_4, .int .i64 a0_5]) (t := 35) ?hr ?_; (case hd => rfl); (case hg => rfl); (case hr => exact zH101); intro gb138 hg w10 hbox hb; have n_ := zA_ (zb (zr zG61 hb)) (zA_ (zb (hbox)) (zA_ (zN1 w.heap.size hg (zq zG61)) (zN1 w.heap.size hg (zq zG61)))); clear HB; obtain ⟨HB, BK138, GW138, GE138⟩ := n_; clear hb hbox hg) | ((with_reducible refine gate_dst (N := 3) rfl ?_); refine box_event ?hg (N := 3) ?hd (cs := #[.int .i64 a1_0, .int .i64 a1_1, .int .i64 a1_2, .int .i64 a1_3, .string a1_4, .int .i64 a1_5]) (t := 35) ?hr ?_; (case hd => rfl); (case hg => rfl); (case hr => exact zH101); intro gb139 hg w11 hbox hb; have n_ := zA_ (zb (zt (g := gb138) (o := .cells #[.int .i64 a0_0, .int .i64 a0_1, .int .i64 a0_2, .int .i64 a0_3, .string a0_4, .int .i64 a0_5] 35 (0, 0)) zK156 hb)) (zA_ (zb (zr zK146 hb)) (zA_ (zb (hbox)) (zA_ (zN1 w.heap.size hg (zq zK146)) (zA_ (zN1 w.heap.size hg (zq zK146)) (zN2 hg (zaa (g := gb138) (o := .cells #[.int .i64 a0_0, .int .i64 a0_1, .int .i64 a0_2, .int .i64 a0_3, .string a0_4, .int .i64 a0_5] 35 (0, 0)) zK156)))))); clear BK138 HB; obtain ⟨BK138, HB, BK139, GW139, GE139, NB138_139, NB139_138⟩ := n_; clear hb hbox hg; have hnb12 := NB138_139.out; have hnc12 := NB139_138.out; have hcz13_0 : w11.cell? ⟨gb138, 0, none⟩ = some (.int .i64 a0_0) := (q6a BK138.out 0).trans rfl; have hcz13_1 : w11.cell? ⟨gb138, 1, none⟩ = some (.int .i64 a0_1) := (q6a BK138.out 1).trans rfl; have hcz13_2 : w11.cell? ⟨gb138, 2, none⟩ = some (.int .i64 a0_2) := (q6a BK138.out 2).trans rfl; have hcz13_3 : w11.cell? ⟨gb138, 3, none⟩ = some (.int .i64 a0_3) := (q6a BK138.out 3).trans rfl; have hcz13_4 : w11.cell? ⟨gb138, 4, none⟩ = some (.string a0_4) := (q6a BK138.out 4).trans rfl; have hcz13_5 : w11.cell? ⟨gb138, 5, none⟩ = some (.int .i64 a0_5) := (q6a BK138.out 5).trans rfl; have hfz13_0 := zd BK138.out 0; have hfz13_1 := zd BK138.out 1; have hfz13_2 := zd BK138.out 2; have hfz13_3 := zd BK138.out 3; have hfz13_4 := zd BK138.out 4; have hfz13_5 := zd BK138.out 5; have hcz14_0 : w11.cell? ⟨gb139, 0, none⟩ = some (.int .i64 a1_0) := (q6a BK139.out 0).trans rfl; have hcz14_1 : w11.cell? ⟨gb139, 1, none⟩ = some (.int .i64 a1_1) := (q6a BK139.out 1).trans rfl; have hcz14_2 : w11.cell? ⟨gb139, 2, none⟩ = some (.int .i64 a1_2) := (q6a BK139.out 2).trans rfl; have hcz14_3 : w11.cell? ⟨gb139, 3, none⟩ = some (.int .i64 a1_3) := (q6a BK139.out 3).trans rfl; have hcz14_4 : w11.cell? ⟨gb139, 4, none⟩ = some (.string a1_4) := (q6a BK139.out 4).trans rfl; have hcz14_5 : w11.cell? ⟨gb139, 5, none⟩ = some (.int .i64 a1_5) := (q6a BK139.out 5).trans rfl; have hfz14_0 := zd BK139.out 0; have hfz14_1 := zd BK139.out 1; have hfz14_2 := zd BK139.out 2; have hfz14_3 := zd BK139.out 3; have hfz14_4 := zd BK139.out 4; have hfz14_5 := zd BK139.out 5))
  go_ret
  exact zH20
 rw [if_pos c4] at H
 have c4b0 : (a0_0 == a1_0) = true := beq_iff_eq.mpr c4
 have c4b1 : (a0_0 != a1_0) = false := bne_eq_false_iff_eq.mpr c4
 clear c4
 obtain rfl := Option.some.inj H
 go_enter Try.func51, Try.ntmps51
 go_wp2_with (first | ((with_reducible refine gate_dst (N := 2) rfl ?_); refine box_event ?hg (N := 2) ?hd (cs := #[.int .i64 a0_0, .int .i64 a0_1, .int .i64 a0_2, .int .i64 a0_3, .string a0_4, .int .i64 a0_5]) (t := 35) ?hr ?_; (case hd => rfl); (case hg => rfl); (case hr => exact zH101); intro gb138 hg w5 hbox hb; have n_ := zA_ (zb (zr zG61 hb)) (zA_ (zb (hbox)) (zA_ (zN1 w.heap.size hg (zq zG61)) (zN1 w.heap.size hg (zq zG61)))); clear HB; obtain ⟨HB, BK138, GW138, GE138⟩ := n_; clear hb hbox hg) | ((with_reducible refine gate_dst (N := 3) rfl ?_); refine box_event ?hg (N := 3) ?hd (cs := #[.int .i64 a1_0, .int .i64 a1_1, .int .i64 a1_2, .int .i64 a1_3, .string a1_4, .int .i64 a1_5]) (t := 35) ?hr ?_; (case hd => rfl); (case hg => rfl); (case hr => exact zH101); intro gb139 hg w6 hbox hb; have n_ := zA_ (zb (zt (g := gb138) (o := .cells #[.int .i64 a0_0, .int .i64 a0_1, .int .i64 a0_2, .int .i64 a0_3, .string a0_4, .int .i64 a0_5] 35 (0, 0)) zK156 hb)) (zA_ (zb (zr zK146 hb)) (zA_ (zb (hbox)) (zA_ (zN1 w.heap.size hg (zq zK146)) (zA_ (zN1 w.heap.size hg (zq zK146)) (zN2 hg (zaa (g := gb138) (o := .cells #[.int .i64 a0_0, .int .i64 a0_1, .int .i64 a0_2, .int .i64 a0_3, .string a0_4, .int .i64 a0_5] 35 (0, 0)) zK156)))))); clear BK138 HB; obtain ⟨BK138, HB, BK139, GW139, GE139, NB138_139, NB139_138⟩ := n_; clear hb hbox hg; have hnb7 := NB138_139.out; have hnc7 := NB139_138.out; have hcz8_0 : w6.cell? ⟨gb138, 0, none⟩ = some (.int .i64 a0_0) := (q6a BK138.out 0).trans rfl; have hcz8_1 : w6.cell? ⟨gb138, 1, none⟩ = some (.int .i64 a0_1) := (q6a BK138.out 1).trans rfl; have hcz8_2 : w6.cell? ⟨gb138, 2, none⟩ = some (.int .i64 a0_2) := (q6a BK138.out 2).trans rfl; have hcz8_3 : w6.cell? ⟨gb138, 3, none⟩ = some (.int .i64 a0_3) := (q6a BK138.out 3).trans rfl; have hcz8_4 : w6.cell? ⟨gb138, 4, none⟩ = some (.string a0_4) := (q6a BK138.out 4).trans rfl; have hcz8_5 : w6.cell? ⟨gb138, 5, none⟩ = some (.int .i64 a0_5) := (q6a BK138.out 5).trans rfl; have hfz8_0 := zd BK138.out 0; have hfz8_1 := zd BK138.out 1; have hfz8_2 := zd BK138.out 2; have hfz8_3 := zd BK138.out 3; have hfz8_4 := zd BK138.out 4; have hfz8_5 := zd BK138.out 5; have hcz9_0 : w6.cell? ⟨gb139, 0, none⟩ = some (.int .i64 a1_0) := (q6a BK139.out 0).trans rfl; have hcz9_1 : w6.cell? ⟨gb139, 1, none⟩ = some (.int .i64 a1_1) := (q6a BK139.out 1).trans rfl; have hcz9_2 : w6.cell? ⟨gb139, 2, none⟩ = some (.int .i64 a1_2) := (q6a BK139.out 2).trans rfl; have hcz9_3 : w6.cell? ⟨gb139, 3, none⟩ = some (.int .i64 a1_3) := (q6a BK139.out 3).trans rfl; have hcz9_4 : w6.cell? ⟨gb139, 4, none⟩ = some (.string a1_4) := (q6a BK139.out 4).trans rfl; have hcz9_5 : w6.cell? ⟨gb139, 5, none⟩ = some (.int .i64 a1_5) := (q6a BK139.out 5).trans rfl; have hfz9_0 := zd BK139.out 0; have hfz9_1 := zd BK139.out 1; have hfz9_2 := zd BK139.out 2; have hfz9_3 := zd BK139.out 3; have hfz9_4 := zd BK139.out 4; have hfz9_5 := zd BK139.out 5))
 go_ret
 exact zH20
/-! ### spec_l01In: function 68 -/
def spec_l01In.f (a0 : Int) (a1 : Int) (a2 : Int) : Option (Bool) := if a0 ≥ a1 then (some (decide (a0 ≤ a2))) else (some false)
set_option maxHeartbeats 64000000 in
set_option maxRecDepth 100000 in
theorem spec_l01In.calls (a0 : Int) (a1 : Int) (a2 : Int) (r : Bool) (w : World) (h : spec_l01In.f a0 a1 a2 = some r) :
  Calls Try.prog 68 #[.int .i64 a0, .int .i64 a1, .int .i64 a2] w fun e w' => e = .returned (.bool r) ∧ Drawn0 w w' := by
 have H : (if a0 ≥ a1 then (some (decide (a0 ≤ a2))) else (some false)) = some r := h
 clear h
 by_cases c4 : a0 ≥ a1
 ·rw [if_pos c4] at H
  have c4b0 : decide (a1 ≤ a0) = true := decide_eq_true c4
  clear c4
  obtain rfl := Option.some.inj H
  go_enter Try.func68, Try.ntmps68
  go_wp2
  go_ret
  exact zH67
 rw [if_neg c4] at H
 have c4b0 : decide (a1 ≤ a0) = false := decide_eq_false c4
 clear c4
 obtain rfl := Option.some.inj H
 go_enter Try.func68, Try.ntmps68
 go_wp2
 go_ret
 exact zH67

end Go.Proofs.Ytoibmbkmpadmnaa.G
