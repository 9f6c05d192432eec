-- squeezed
-- made by pp.py (wip/tools) out of the translation; Lean checks it
import Derived.Test.YtojncbpeeboooaaT0
import Derived.Test.YtojncbpeeboooaaT2
namespace Go.Proofs.Ytojncbpeeboooaa.T
open Go.RowKit Go.Proofs.YtojncbpeeboooaaW.PrintWords Go.Proofs.YtojncbpeeboooaaW.PrintLast Go.Proofs.YtojncbpeeboooaaW.PrintMore
attribute [local go_sem] max2_int min2_int max_two min_two max_three min_three max_four min_four   -- for this text's walks alone
set_option linter.unusedVariables false
set_option linter.unusedSimpArgs false


/-! ### spec_StopsOK: function 121 -/
def spec_StopsOK.l0 : Nat → List (S37) → Int → Option (Bool)
 | 0, _, _ => none
 | k + 1, x0, x3 => if x3 < (x0.length : Int) then (if 0 ≤ x3 then ((spec_l01In.f ((rd_T37 x0 x3).f0) (-1000) 1000).bind fun t192 => (if t192 = true then ((spec_l01In.f ((rd_T37 x0 x3).f1) (-1000) 1000).bind fun t193 => (if t193 = true then (if ((rd_T37 x0 x3).f2) < 0 then (some false) else (if ((rd_T37 x0 x3).f2) > ((rd_T37 x0 x3).f3) then (some false) else (if ((rd_T37 x0 x3).f3) > 100000 then (some false) else ((spec_l01In.f ((rd_T37 x0 x3).f4) 0 1000).bind fun t194 => (if t194 = true then (spec_StopsOK.l0 k x0 (wrap64 (x3 + 1))) else (some false)))))) else (some false))) else (some false))) else (none)) else (some true)
def spec_StopsOK.f (k : Nat) (l0 : List (S37)) : Option (Bool) := if (l0.length : Int) > 7 then (some false) else (spec_StopsOK.l0 k l0 0)
theorem spec_StopsOK.mono_l : ∀ k, (∀ y0 y1, LeO (spec_StopsOK.l0 k y0 y1) (spec_StopsOK.l0 (k + 1) y0 y1))
 | 0 => fun _ _ r h => by simp [spec_StopsOK.l0] at h
 | k + 1 => by
  have ih0 := spec_StopsOK.mono_l k
  ·intro y0 y1
   unfold spec_StopsOK.l0
   repeat' first
   | (with_reducible exact ih0 _ _)
   | (with_reducible exact LeO.refl _)
   | (with_reducible exact LeO.none _)
   | (with_reducible refine LeO.ite ?_ ?_)
   | (with_reducible refine LeO.bind ?_ (fun _ => ?_))
   | exact ih0 _ _
   | exact LeO.none _
   | refine LeO.ite ?_ ?_
   | refine LeO.bind ?_ (fun _ => ?_)
theorem spec_StopsOK.mono : ∀ a0 k, LeO (spec_StopsOK.f k a0) (spec_StopsOK.f (k + 1) a0) := by
 intro a0 k
 have ih0 := spec_StopsOK.mono_l k
 unfold spec_StopsOK.f
 repeat' first
   | (with_reducible exact ih0 _ _)
   | (with_reducible exact LeO.refl _)
   | (with_reducible exact LeO.none _)
   | (with_reducible refine LeO.ite ?_ ?_)
   | (with_reducible refine LeO.bind ?_ (fun _ => ?_))
   | exact ih0 _ _
   | exact LeO.none _
   | refine LeO.ite ?_ ?_
   | refine LeO.bind ?_ (fun _ => ?_)
set_option maxHeartbeats 8000000 in
set_option maxRecDepth 100000 in
theorem spec_StopsOK.calls (k : Nat) (A0 : Option Addr) (c0 : Nat) (l0 : List (S37)) (r : Bool) (w : World) (hr0 : Kd.C k37 w A0 l0.length l0) (hc0 : l0.length ≤ c0) (h : spec_StopsOK.f k l0 = some r) :
  Calls Try.prog 121 #[.slice A0 l0.length c0] w fun e w' => e = .returned (.bool r) ∧ Below w.heap.size w w' := by
 have hu37 := Try.underlying37
 have HR0 := za hr0
 have HC0 := za hc0
 clear hr0 hc0
 have HB := za (Below.refl w.heap.size w)
 have H : (if (l0.length : Int) > 7 then (some false) else (spec_StopsOK.l0 k l0 0)) = some r := h
 clear h
 by_cases c2 : (l0.length : Int) > 7
 ·rw [if_pos c2] at H
  have c2b0 : decide (7 < (l0.length : Int)) = true := decide_eq_true c2
  have c2b1 : decide (7 < l0.length) = true := decide_eq_true (by omega)
  clear c2
  obtain rfl := Option.some.inj H
  go_enter Try.func121, Try.ntmps121
  go_wp2
  go_ret
  exact zH32
 rw [if_neg c2] at H
 have c2b0 : decide (7 < (l0.length : Int)) = false := decide_eq_false c2
 have c2b1 : decide (7 < l0.length) = false := decide_eq_false (by omega)
 clear c2
 have H' := za H
 clear H
 go_enter Try.func121, Try.ntmps121
 go_wp2
 go_loopg [3] k (fun kq v3 w' => ∃ (x3_1 : Int), v3 = .int .i64 x3_1 ∧ Aside0 (spec_StopsOK.l0 kq l0 x3_1 = some r) ∧ Aside0 (kq ≤ k) ∧ Aside0 (Below w.heap.size w w'))
 case atStart => exact ⟨(0), zG100, H', ⟨Nat.le_refl _⟩, ⟨zH77⟩⟩
 case round =>
  clear H'
  try clear c1
  try clear c2
  try clear c2b0
  try clear c2b1
  try clear p2
  obtain ⟨x3_1, rfl, HA, HK1, HB⟩ := hrel
  cases gk with
  | zero => exact absurd HA.out (by simp [spec_StopsOK.l0])
  | succ k1 =>
   have H := HA.out
   clear HA
   simp only [spec_StopsOK.l0] at H
   by_cases c3 : x3_1 < (l0.length : Int)
   rotate_left
   ·rw [if_neg c3] at H
    have c3b0 := decide_eq_false c3
    clear c3
    obtain rfl := Option.some.inj H
    go_wp2
    go_ret
    exact zH32

   rw [if_pos c3] at H
   have c3b0 := decide_eq_true c3
   clear c3
   by_cases c4 : 0 ≤ x3_1
   rotate_left
   ·rw [if_neg c4] at H
    exact absurd H (by simp)
   rw [if_pos c4] at H
   have c4b0 := decide_eq_true c4
   clear c4
   replace H := Option.bind_eq_some_iff.mp H
   obtain ⟨t192, A50, H⟩ := H
   replace H : (if t192 = true then ((spec_l01In.f ((rd_T37 l0 x3_1).f1) (-1000) 1000).bind fun t193 => (if t193 = true then (if ((rd_T37 l0 x3_1).f2) < 0 then (some false) else (if ((rd_T37 l0 x3_1).f2) > ((rd_T37 l0 x3_1).f3) then (some false) else (if ((rd_T37 l0 x3_1).f3) > 100000 then (some false) else ((spec_l01In.f ((rd_T37 l0 x3_1).f4) 0 1000).bind fun t194 => (if t194 = true then (spec_StopsOK.l0 k1 l0 (wrap64 (x3_1 + 1))) else (some false)))))) else (some false))) else (some false)) = some r := H
   have A5 := za A50
   clear A50
   by_cases c6 : t192 = true
   rotate_left
   ·replace c6 := Bool.eq_false_iff.mpr c6
    subst c6
    have H1 : (some false) = some r := by rw [if_neg (show ¬ (false = true) by decide)] at H; exact H
    clear H
    have H := H1
    clear H1
    obtain rfl := Option.some.inj H
    have p190 : 0 ≤ (x3_1 : Int) := zO
    have q190 : x3_1 < (l0.length : Int) := zO
    obtain ⟨ad190, e190, hx190_0, hx190_1, hx190_2, hx190_3, hx190_4⟩ := at_T37 HR0.out x3_1 p190 q190
    cases e190
    replace hx190_0 := (HB.out.cell (zo w _ hx190_0)).trans hx190_0
    replace hx190_1 := (HB.out.cell (zo w _ hx190_1)).trans hx190_1
    replace hx190_2 := (HB.out.cell (zo w _ hx190_2)).trans hx190_2
    replace hx190_3 := (HB.out.cell (zo w _ hx190_3)).trans hx190_3
    replace hx190_4 := (HB.out.cell (zo w _ hx190_4)).trans hx190_4
    replace p190 := eq_true p190
    replace q190 := eq_true q190
    go_wp2_with (first | ((with_reducible refine gate_dst (N := 4) rfl ?_); refine box_event ?hg (N := 4) ?hd (cs := #[.int .i64 0, .int .i64 0, .int .i64 0, .int .i64 0, .int .i64 0]) (t := 37) ?hr ?_; (case hd => rfl); (case hg => rfl); (case hr => exact zH99); intro gb191 hg w26 hbox hb; have n_ := zA_ (za (zu zG76 hb)) (zA_ (za (hbox)) (zA_ (za ((by rw [hg]; exact (zq zG76) : w.heap.size ≤ gb191))) (za ((by rw [hg]; exact (zq zG76) : w.heap.size ≤ gb191))))); clear HB; obtain ⟨HB, BK191, GW191, GE191⟩ := n_; clear hb hbox hg; have hcz27_0 : w26.cell? ⟨gb191, 0, none⟩ = some (.int .i64 0) := (zg BK191.out 0).trans rfl; have hcz27_1 : w26.cell? ⟨gb191, 1, none⟩ = some (.int .i64 0) := (zg BK191.out 1).trans rfl; have hcz27_2 : w26.cell? ⟨gb191, 2, none⟩ = some (.int .i64 0) := (zg BK191.out 2).trans rfl; have hcz27_3 : w26.cell? ⟨gb191, 3, none⟩ = some (.int .i64 0) := (zg BK191.out 3).trans rfl; have hcz27_4 : w26.cell? ⟨gb191, 4, none⟩ = some (.int .i64 0) := (zg BK191.out 4).trans rfl; have hfz27_0 := zh BK191.out 0; have hfz27_1 := zh BK191.out 1; have hfz27_2 := zh BK191.out 2; have hfz27_3 := zh BK191.out 3; have hfz27_4 := zh BK191.out 4) | ((with_reducible refine gate_callee (f := 122) rfl ?_); refine goesL_ (some 20) rfl rfl Try.func122 zG101 rfl #[.int .i64 ((rd_T37 l0 x3_1).f0), .int .i64 (-1000), .int .i64 1000] rfl zG68 ?_; (with_reducible refine (spec_l01In.calls ((rd_T37 l0 x3_1).f0) (-1000) 1000 false _ A5.out).mono ?_); rintro e w' ⟨rfl, ⟨nd, rfl⟩⟩; refine ⟨_, rfl, ?_⟩))
    go_ret
    exact zH24
   subst c6
   have H1 : ((spec_l01In.f ((rd_T37 l0 x3_1).f1) (-1000) 1000).bind fun t193 => (if t193 = true then (if ((rd_T37 l0 x3_1).f2) < 0 then (some false) else (if ((rd_T37 l0 x3_1).f2) > ((rd_T37 l0 x3_1).f3) then (some false) else (if ((rd_T37 l0 x3_1).f3) > 100000 then (some false) else ((spec_l01In.f ((rd_T37 l0 x3_1).f4) 0 1000).bind fun t194 => (if t194 = true then (spec_StopsOK.l0 k1 l0 (wrap64 (x3_1 + 1))) else (some false)))))) else (some false))) = some r := by rw [if_pos rfl] at H; exact H
   clear H
   have H := H1
   clear H1
   replace H := Option.bind_eq_some_iff.mp H
   obtain ⟨t193, A70, H⟩ := H
   replace H : (if t193 = true then (if ((rd_T37 l0 x3_1).f2) < 0 then (some false) else (if ((rd_T37 l0 x3_1).f2) > ((rd_T37 l0 x3_1).f3) then (some false) else (if ((rd_T37 l0 x3_1).f3) > 100000 then (some false) else ((spec_l01In.f ((rd_T37 l0 x3_1).f4) 0 1000).bind fun t194 => (if t194 = true then (spec_StopsOK.l0 k1 l0 (wrap64 (x3_1 + 1))) else (some false)))))) else (some false)) = some r := H
   have A7 := za A70
   clear A70
   by_cases c8 : t193 = true
   rotate_left
   ·replace c8 := Bool.eq_false_iff.mpr c8
    subst c8
    have H1 : (some false) = some r := by rw [if_neg (show ¬ (false = true) by decide)] at H; exact H
    clear H
    have H := H1
    clear H1
    obtain rfl := Option.some.inj H
    have p190 : 0 ≤ (x3_1 : Int) := zO
    have q190 : x3_1 < (l0.length : Int) := zO
    obtain ⟨ad190, e190, hx190_0, hx190_1, hx190_2, hx190_3, hx190_4⟩ := at_T37 HR0.out x3_1 p190 q190
    cases e190
    replace hx190_0 := (HB.out.cell (zo w _ hx190_0)).trans hx190_0
    replace hx190_1 := (HB.out.cell (zo w _ hx190_1)).trans hx190_1
    replace hx190_2 := (HB.out.cell (zo w _ hx190_2)).trans hx190_2
    replace hx190_3 := (HB.out.cell (zo w _ hx190_3)).trans hx190_3
    replace hx190_4 := (HB.out.cell (zo w _ hx190_4)).trans hx190_4
    replace p190 := eq_true p190
    replace q190 := eq_true q190
    go_wp2_with (first | ((with_reducible refine gate_dst (N := 4) rfl ?_); refine box_event ?hg (N := 4) ?hd (cs := #[.int .i64 0, .int .i64 0, .int .i64 0, .int .i64 0, .int .i64 0]) (t := 37) ?hr ?_; (case hd => rfl); (case hg => rfl); (case hr => exact zH99); intro gb191 hg w24 hbox hb; have n_ := zA_ (za (zu zG76 hb)) (zA_ (za (hbox)) (zA_ (za ((by rw [hg]; exact (zq zG76) : w.heap.size ≤ gb191))) (za ((by rw [hg]; exact (zq zG76) : w.heap.size ≤ gb191))))); clear HB; obtain ⟨HB, BK191, GW191, GE191⟩ := n_; clear hb hbox hg; have hcz25_0 : w24.cell? ⟨gb191, 0, none⟩ = some (.int .i64 0) := (zg BK191.out 0).trans rfl; have hcz25_1 : w24.cell? ⟨gb191, 1, none⟩ = some (.int .i64 0) := (zg BK191.out 1).trans rfl; have hcz25_2 : w24.cell? ⟨gb191, 2, none⟩ = some (.int .i64 0) := (zg BK191.out 2).trans rfl; have hcz25_3 : w24.cell? ⟨gb191, 3, none⟩ = some (.int .i64 0) := (zg BK191.out 3).trans rfl; have hcz25_4 : w24.cell? ⟨gb191, 4, none⟩ = some (.int .i64 0) := (zg BK191.out 4).trans rfl; have hfz25_0 := zh BK191.out 0; have hfz25_1 := zh BK191.out 1; have hfz25_2 := zh BK191.out 2; have hfz25_3 := zh BK191.out 3; have hfz25_4 := zh BK191.out 4) | ((with_reducible refine gate_callee (f := 122) rfl ?_); refine goesL_ (some 20) rfl rfl Try.func122 zG101 rfl #[.int .i64 ((rd_T37 l0 x3_1).f0), .int .i64 (-1000), .int .i64 1000] rfl zG68 ?_; (with_reducible refine (spec_l01In.calls ((rd_T37 l0 x3_1).f0) (-1000) 1000 true _ A5.out).mono ?_); rintro e w' ⟨rfl, ⟨nd, rfl⟩⟩; refine ⟨_, rfl, ?_⟩) | (go_at_call 122; (with_reducible refine (spec_l01In.calls ((rd_T37 l0 x3_1).f1) (-1000) 1000 false _ A7.out).mono ?_); rintro e w' ⟨rfl, ⟨nd, rfl⟩⟩))
    go_ret
    exact zH24
   subst c8
   have H1 : (if ((rd_T37 l0 x3_1).f2) < 0 then (some false) else (if ((rd_T37 l0 x3_1).f2) > ((rd_T37 l0 x3_1).f3) then (some false) else (if ((rd_T37 l0 x3_1).f3) > 100000 then (some false) else ((spec_l01In.f ((rd_T37 l0 x3_1).f4) 0 1000).bind fun t194 => (if t194 = true then (spec_StopsOK.l0 k1 l0 (wrap64 (x3_1 + 1))) else (some false)))))) = some r := by rw [if_pos rfl] at H; exact H
   clear H
   have H := H1
   clear H1
   by_cases c9 : ((rd_T37 l0 x3_1).f2) < 0
   ·rw [if_pos c9] at H
    have c9b0 := decide_eq_true c9
    clear c9
    obtain rfl := Option.some.inj H
    have p190 : 0 ≤ (x3_1 : Int) := zO
    have q190 : x3_1 < (l0.length : Int) := zO
    obtain ⟨ad190, e190, hx190_0, hx190_1, hx190_2, hx190_3, hx190_4⟩ := at_T37 HR0.out x3_1 p190 q190
    cases e190
    replace hx190_0 := (HB.out.cell (zo w _ hx190_0)).trans hx190_0
    replace hx190_1 := (HB.out.cell (zo w _ hx190_1)).trans hx190_1
    replace hx190_2 := (HB.out.cell (zo w _ hx190_2)).trans hx190_2
    replace hx190_3 := (HB.out.cell (zo w _ hx190_3)).trans hx190_3
    replace hx190_4 := (HB.out.cell (zo w _ hx190_4)).trans hx190_4
    replace p190 := eq_true p190
    replace q190 := eq_true q190
    go_wp2_with (first | ((with_reducible refine gate_dst (N := 4) rfl ?_); refine box_event ?hg (N := 4) ?hd (cs := #[.int .i64 0, .int .i64 0, .int .i64 0, .int .i64 0, .int .i64 0]) (t := 37) ?hr ?_; (case hd => rfl); (case hg => rfl); (case hr => exact zH99); intro gb191 hg w10 hbox hb; have n_ := zA_ (za (zu zG76 hb)) (zA_ (za (hbox)) (zA_ (za ((by rw [hg]; exact (zq zG76) : w.heap.size ≤ gb191))) (za ((by rw [hg]; exact (zq zG76) : w.heap.size ≤ gb191))))); clear HB; obtain ⟨HB, BK191, GW191, GE191⟩ := n_; clear hb hbox hg; have hcz11_0 : w10.cell? ⟨gb191, 0, none⟩ = some (.int .i64 0) := (zg BK191.out 0).trans rfl; have hcz11_1 : w10.cell? ⟨gb191, 1, none⟩ = some (.int .i64 0) := (zg BK191.out 1).trans rfl; have hcz11_2 : w10.cell? ⟨gb191, 2, none⟩ = some (.int .i64 0) := (zg BK191.out 2).trans rfl; have hcz11_3 : w10.cell? ⟨gb191, 3, none⟩ = some (.int .i64 0) := (zg BK191.out 3).trans rfl; have hcz11_4 : w10.cell? ⟨gb191, 4, none⟩ = some (.int .i64 0) := (zg BK191.out 4).trans rfl; have hfz11_0 := zh BK191.out 0; have hfz11_1 := zh BK191.out 1; have hfz11_2 := zh BK191.out 2; have hfz11_3 := zh BK191.out 3; have hfz11_4 := zh BK191.out 4) | ((with_reducible refine gate_callee (f := 122) rfl ?_); refine goesL_ (some 20) rfl rfl Try.func122 zG101 rfl #[.int .i64 ((rd_T37 l0 x3_1).f0), .int .i64 (-1000), .int .i64 1000] rfl zG68 ?_; (with_reducible refine (spec_l01In.calls ((rd_T37 l0 x3_1).f0) (-1000) 1000 true _ A5.out).mono ?_); rintro e w' ⟨rfl, ⟨nd, rfl⟩⟩; refine ⟨_, rfl, ?_⟩) | (go_at_call 122; (with_reducible refine (spec_l01In.calls ((rd_T37 l0 x3_1).f1) (-1000) 1000 true _ A7.out).mono ?_); rintro e w' ⟨rfl, ⟨nd, rfl⟩⟩))
    go_ret
    exact zH24
   rw [if_neg c9] at H
   have c9b0 := decide_eq_false c9
   clear c9
   by_cases c12 : ((rd_T37 l0 x3_1).f2) > ((rd_T37 l0 x3_1).f3)
   ·rw [if_pos c12] at H
    have c12b0 : decide (((rd_T37 l0 x3_1).f3) < ((rd_T37 l0 x3_1).f2)) = true := decide_eq_true c12
    clear c12
    obtain rfl := Option.some.inj H
    have p190 : 0 ≤ (x3_1 : Int) := zO
    have q190 : x3_1 < (l0.length : Int) := zO
    obtain ⟨ad190, e190, hx190_0, hx190_1, hx190_2, hx190_3, hx190_4⟩ := at_T37 HR0.out x3_1 p190 q190
    cases e190
    replace hx190_0 := (HB.out.cell (zo w _ hx190_0)).trans hx190_0
    replace hx190_1 := (HB.out.cell (zo w _ hx190_1)).trans hx190_1
    replace hx190_2 := (HB.out.cell (zo w _ hx190_2)).trans hx190_2
    replace hx190_3 := (HB.out.cell (zo w _ hx190_3)).trans hx190_3
    replace hx190_4 := (HB.out.cell (zo w _ hx190_4)).trans hx190_4
    replace p190 := eq_true p190
    replace q190 := eq_true q190
    go_wp2_with (first | ((with_reducible refine gate_dst (N := 4) rfl ?_); refine box_event ?hg (N := 4) ?hd (cs := #[.int .i64 0, .int .i64 0, .int .i64 0, .int .i64 0, .int .i64 0]) (t := 37) ?hr ?_; (case hd => rfl); (case hg => rfl); (case hr => exact zH99); intro gb191 hg w13 hbox hb; have n_ := zA_ (za (zu zG76 hb)) (zA_ (za (hbox)) (zA_ (za ((by rw [hg]; exact (zq zG76) : w.heap.size ≤ gb191))) (za ((by rw [hg]; exact (zq zG76) : w.heap.size ≤ gb191))))); clear HB; obtain ⟨HB, BK191, GW191, GE191⟩ := n_; clear hb hbox hg; have hcz14_0 : w13.cell? ⟨gb191, 0, none⟩ = some (.int .i64 0) := (zg BK191.out 0).trans rfl; have hcz14_1 : w13.cell? ⟨gb191, 1, none⟩ = some (.int .i64 0) := (zg BK191.out 1).trans rfl; have hcz14_2 : w13.cell? ⟨gb191, 2, none⟩ = some (.int .i64 0) := (zg BK191.out 2).trans rfl; have hcz14_3 : w13.cell? ⟨gb191, 3, none⟩ = some (.int .i64 0) := (zg BK191.out 3).trans rfl; have hcz14_4 : w13.cell? ⟨gb191, 4, none⟩ = some (.int .i64 0) := (zg BK191.out 4).trans rfl; have hfz14_0 := zh BK191.out 0; have hfz14_1 := zh BK191.out 1; have hfz14_2 := zh BK191.out 2; have hfz14_3 := zh BK191.out 3; have hfz14_4 := zh BK191.out 4) | ((with_reducible refine gate_callee (f := 122) rfl ?_); refine goesL_ (some 20) rfl rfl Try.func122 zG101 rfl #[.int .i64 ((rd_T37 l0 x3_1).f0), .int .i64 (-1000), .int .i64 1000] rfl zG68 ?_; (with_reducible refine (spec_l01In.calls ((rd_T37 l0 x3_1).f0) (-1000) 1000 true _ A5.out).mono ?_); rintro e w' ⟨rfl, ⟨nd, rfl⟩⟩; refine ⟨_, rfl, ?_⟩) | (go_at_call 122; (with_reducible refine (spec_l01In.calls ((rd_T37 l0 x3_1).f1) (-1000) 1000 true _ A7.out).mono ?_); rintro e w' ⟨rfl, ⟨nd, rfl⟩⟩))
    go_ret
    exact zH24
   rw [if_neg c12] at H
   have c12b0 : decide (((rd_T37 l0 x3_1).f3) < ((rd_T37 l0 x3_1).f2)) = false := decide_eq_false c12
   clear c12
   by_cases c15 : ((rd_T37 l0 x3_1).f3) > 100000
   ·rw [if_pos c15] at H
    have c15b0 : decide (100000 < ((rd_T37 l0 x3_1).f3)) = true := decide_eq_true c15
    clear c15
    obtain rfl := Option.some.inj H
    have p190 : 0 ≤ (x3_1 : Int) := zO
    have q190 : x3_1 < (l0.length : Int) := zO
    obtain ⟨ad190, e190, hx190_0, hx190_1, hx190_2, hx190_3, hx190_4⟩ := at_T37 HR0.out x3_1 p190 q190
    cases e190
    replace hx190_0 := (HB.out.cell (zo w _ hx190_0)).trans hx190_0
    replace hx190_1 := (HB.out.cell (zo w _ hx190_1)).trans hx190_1
    replace hx190_2 := (HB.out.cell (zo w _ hx190_2)).trans hx190_2
    replace hx190_3 := (HB.out.cell (zo w _ hx190_3)).trans hx190_3
    replace hx190_4 := (HB.out.cell (zo w _ hx190_4)).trans hx190_4
    replace p190 := eq_true p190
    replace q190 := eq_true q190
    go_wp2_with (first | ((with_reducible refine gate_dst (N := 4) rfl ?_); refine box_event ?hg (N := 4) ?hd (cs := #[.int .i64 0, .int .i64 0, .int .i64 0, .int .i64 0, .int .i64 0]) (t := 37) ?hr ?_; (case hd => rfl); (case hg => rfl); (case hr => exact zH99); intro gb191 hg w16 hbox hb; have n_ := zA_ (za (zu zG76 hb)) (zA_ (za (hbox)) (zA_ (za ((by rw [hg]; exact (zq zG76) : w.heap.size ≤ gb191))) (za ((by rw [hg]; exact (zq zG76) : w.heap.size ≤ gb191))))); clear HB; obtain ⟨HB, BK191, GW191, GE191⟩ := n_; clear hb hbox hg; have hcz17_0 : w16.cell? ⟨gb191, 0, none⟩ = some (.int .i64 0) := (zg BK191.out 0).trans rfl; have hcz17_1 : w16.cell? ⟨gb191, 1, none⟩ = some (.int .i64 0) := (zg BK191.out 1).trans rfl; have hcz17_2 : w16.cell? ⟨gb191, 2, none⟩ = some (.int .i64 0) := (zg BK191.out 2).trans rfl; have hcz17_3 : w16.cell? ⟨gb191, 3, none⟩ = some (.int .i64 0) := (zg BK191.out 3).trans rfl; have hcz17_4 : w16.cell? ⟨gb191, 4, none⟩ = some (.int .i64 0) := (zg BK191.out 4).trans rfl; have hfz17_0 := zh BK191.out 0; have hfz17_1 := zh BK191.out 1; have hfz17_2 := zh BK191.out 2; have hfz17_3 := zh BK191.out 3; have hfz17_4 := zh BK191.out 4) | ((with_reducible refine gate_callee (f := 122) rfl ?_); refine goesL_ (some 20) rfl rfl Try.func122 zG101 rfl #[.int .i64 ((rd_T37 l0 x3_1).f0), .int .i64 (-1000), .int .i64 1000] rfl zG68 ?_; (with_reducible refine (spec_l01In.calls ((rd_T37 l0 x3_1).f0) (-1000) 1000 true _ A5.out).mono ?_); rintro e w' ⟨rfl, ⟨nd, rfl⟩⟩; refine ⟨_, rfl, ?_⟩) | (go_at_call 122; (with_reducible refine (spec_l01In.calls ((rd_T37 l0 x3_1).f1) (-1000) 1000 true _ A7.out).mono ?_); rintro e w' ⟨rfl, ⟨nd, rfl⟩⟩))
    go_ret
    exact zH24
   rw [if_neg c15] at H
   have c15b0 : decide (100000 < ((rd_T37 l0 x3_1).f3)) = false := decide_eq_false c15
   clear c15
   replace H := Option.bind_eq_some_iff.mp H
   obtain ⟨t194, A180, H⟩ := H
   replace H : (if t194 = true then (spec_StopsOK.l0 k1 l0 (wrap64 (x3_1 + 1))) else (some false)) = some r := H
   have A18 := za A180
   clear A180
   by_cases c19 : t194 = true
   rotate_left
   ·replace c19 := Bool.eq_false_iff.mpr c19
    subst c19
    have H1 : (some false) = some r := by rw [if_neg (show ¬ (false = true) by decide)] at H; exact H
    clear H
    have H := H1
    clear H1
    obtain rfl := Option.some.inj H
    have p190 : 0 ≤ (x3_1 : Int) := zO
    have q190 : x3_1 < (l0.length : Int) := zO
    obtain ⟨ad190, e190, hx190_0, hx190_1, hx190_2, hx190_3, hx190_4⟩ := at_T37 HR0.out x3_1 p190 q190
    cases e190
    replace hx190_0 := (HB.out.cell (zo w _ hx190_0)).trans hx190_0
    replace hx190_1 := (HB.out.cell (zo w _ hx190_1)).trans hx190_1
    replace hx190_2 := (HB.out.cell (zo w _ hx190_2)).trans hx190_2
    replace hx190_3 := (HB.out.cell (zo w _ hx190_3)).trans hx190_3
    replace hx190_4 := (HB.out.cell (zo w _ hx190_4)).trans hx190_4
    replace p190 := eq_true p190
    replace q190 := eq_true q190
    go_wp2_with (first | ((with_reducible refine gate_dst (N := 4) rfl ?_); refine box_event ?hg (N := 4) ?hd (cs := #[.int .i64 0, .int .i64 0, .int .i64 0, .int .i64 0, .int .i64 0]) (t := 37) ?hr ?_; (case hd => rfl); (case hg => rfl); (case hr => exact zH99); intro gb191 hg w22 hbox hb; have n_ := zA_ (za (zu zG76 hb)) (zA_ (za (hbox)) (zA_ (za ((by rw [hg]; exact (zq zG76) : w.heap.size ≤ gb191))) (za ((by rw [hg]; exact (zq zG76) : w.heap.size ≤ gb191))))); clear HB; obtain ⟨HB, BK191, GW191, GE191⟩ := n_; clear hb hbox hg; have hcz23_0 : w22.cell? ⟨gb191, 0, none⟩ = some (.int .i64 0) := (zg BK191.out 0).trans rfl; have hcz23_1 : w22.cell? ⟨gb191, 1, none⟩ = some (.int .i64 0) := (zg BK191.out 1).trans rfl; have hcz23_2 : w22.cell? ⟨gb191, 2, none⟩ = some (.int .i64 0) := (zg BK191.out 2).trans rfl; have hcz23_3 : w22.cell? ⟨gb191, 3, none⟩ = some (.int .i64 0) := (zg BK191.out 3).trans rfl; have hcz23_4 : w22.cell? ⟨gb191, 4, none⟩ = some (.int .i64 0) := (zg BK191.out 4).trans rfl; have hfz23_0 := zh BK191.out 0; have hfz23_1 := zh BK191.out 1; have hfz23_2 := zh BK191.out 2; have hfz23_3 := zh BK191.out 3; have hfz23_4 := zh BK191.out 4) | ((with_reducible refine gate_callee (f := 122) rfl ?_); refine goesL_ (some 20) rfl rfl Try.func122 zG101 rfl #[.int .i64 ((rd_T37 l0 x3_1).f0), .int .i64 (-1000), .int .i64 1000] rfl zG68 ?_; (with_reducible refine (spec_l01In.calls ((rd_T37 l0 x3_1).f0) (-1000) 1000 true _ A5.out).mono ?_); rintro e w' ⟨rfl, ⟨nd, rfl⟩⟩; refine ⟨_, rfl, ?_⟩) | (go_at_call 122; (with_reducible refine (spec_l01In.calls ((rd_T37 l0 x3_1).f1) (-1000) 1000 true _ A7.out).mono ?_); rintro e w' ⟨rfl, ⟨nd, rfl⟩⟩) | (go_at_call 122; (with_reducible refine (spec_l01In.calls ((rd_T37 l0 x3_1).f4) 0 1000 false _ A18.out).mono ?_); rintro e w' ⟨rfl, ⟨nd, rfl⟩⟩))
    go_ret
    exact zH24
   subst c19
   have H1 : (spec_StopsOK.l0 k1 l0 (wrap64 (x3_1 + 1))) = some r := by rw [if_pos rfl] at H; exact H
   clear H
   have H := H1
   clear H1
   have H' := za H
   clear H
   have p190 : 0 ≤ (x3_1 : Int) := zO
   have q190 : x3_1 < (l0.length : Int) := zO
   obtain ⟨ad190, e190, hx190_0, hx190_1, hx190_2, hx190_3, hx190_4⟩ := at_T37 HR0.out x3_1 p190 q190
   cases e190
   replace hx190_0 := (HB.out.cell (zo w _ hx190_0)).trans hx190_0
   replace hx190_1 := (HB.out.cell (zo w _ hx190_1)).trans hx190_1
   replace hx190_2 := (HB.out.cell (zo w _ hx190_2)).trans hx190_2
   replace hx190_3 := (HB.out.cell (zo w _ hx190_3)).trans hx190_3
   replace hx190_4 := (HB.out.cell (zo w _ hx190_4)).trans hx190_4
   replace p190 := eq_true p190
   replace q190 := eq_true q190
   go_wp2_with (first | ((with_reducible refine gate_dst (N := 4) rfl ?_); refine box_event ?hg (N := 4) ?hd (cs := #[.int .i64 0, .int .i64 0, .int .i64 0, .int .i64 0, .int .i64 0]) (t := 37) ?hr ?_; (case hd => rfl); (case hg => rfl); (case hr => exact zH99); intro gb191 hg w20 hbox hb; have n_ := zA_ (za (zu zG76 hb)) (zA_ (za (hbox)) (zA_ (za ((by rw [hg]; exact (zq zG76) : w.heap.size ≤ gb191))) (za ((by rw [hg]; exact (zq zG76) : w.heap.size ≤ gb191))))); clear HB; obtain ⟨HB, BK191, GW191, GE191⟩ := n_; clear hb hbox hg; have hcz21_0 : w20.cell? ⟨gb191, 0, none⟩ = some (.int .i64 0) := (zg BK191.out 0).trans rfl; have hcz21_1 : w20.cell? ⟨gb191, 1, none⟩ = some (.int .i64 0) := (zg BK191.out 1).trans rfl; have hcz21_2 : w20.cell? ⟨gb191, 2, none⟩ = some (.int .i64 0) := (zg BK191.out 2).trans rfl; have hcz21_3 : w20.cell? ⟨gb191, 3, none⟩ = some (.int .i64 0) := (zg BK191.out 3).trans rfl; have hcz21_4 : w20.cell? ⟨gb191, 4, none⟩ = some (.int .i64 0) := (zg BK191.out 4).trans rfl; have hfz21_0 := zh BK191.out 0; have hfz21_1 := zh BK191.out 1; have hfz21_2 := zh BK191.out 2; have hfz21_3 := zh BK191.out 3; have hfz21_4 := zh BK191.out 4) | ((with_reducible refine gate_callee (f := 122) rfl ?_); refine goesL_ (some 20) rfl rfl Try.func122 zG101 rfl #[.int .i64 ((rd_T37 l0 x3_1).f0), .int .i64 (-1000), .int .i64 1000] rfl zG68 ?_; (with_reducible refine (spec_l01In.calls ((rd_T37 l0 x3_1).f0) (-1000) 1000 true _ A5.out).mono ?_); rintro e w' ⟨rfl, ⟨nd, rfl⟩⟩; refine ⟨_, rfl, ?_⟩) | (go_at_call 122; (with_reducible refine (spec_l01In.calls ((rd_T37 l0 x3_1).f1) (-1000) 1000 true _ A7.out).mono ?_); rintro e w' ⟨rfl, ⟨nd, rfl⟩⟩) | (go_at_call 122; (with_reducible refine (spec_l01In.calls ((rd_T37 l0 x3_1).f4) 0 1000 true _ A18.out).mono ?_); rintro e w' ⟨rfl, ⟨nd, rfl⟩⟩))
   go_roundg k1
   case measure => have := HK1.out; omega
   case rel => exact ⟨(wrap64 (x3_1 + 1)), zG100, H', ⟨zH102⟩, ⟨by repeat (first | (with_reducible first | exact HB.out | apply zj | apply ze | apply zi | refine zf ?_ GE191.out) | exact HB.out)⟩⟩
/-! ### spec_l20Begin: function 68 -/
def spec_l20Begin.f (k : Nat) (l0 : List (S37)) (a1 : Int) : Option (Int) := if (l0.length : Int) > 4096 then (some 2) else ((spec_StopsOK.f k l0).bind fun t195 => (if t195 = true then ((spec_l01In.f a1 0 100000).bind fun t196 => (if t196 = true then (some 0) else (some 5))) else (some 1)))
theorem spec_l20Begin.mono : ∀ a0 a1 k, LeO (spec_l20Begin.f k a0 a1) (spec_l20Begin.f (k + 1) a0 a1) := by
 intro a0 a1 k
 unfold spec_l20Begin.f
 repeat' first
   | (with_reducible exact spec_StopsOK.mono _ _)
   | (with_reducible exact LeO.refl _)
   | (with_reducible exact LeO.none _)
   | (with_reducible refine LeO.ite ?_ ?_)
   | (with_reducible refine LeO.bind ?_ (fun _ => ?_))
   | exact spec_StopsOK.mono _ _
   | exact LeO.none _
   | refine LeO.ite ?_ ?_
   | refine LeO.bind ?_ (fun _ => ?_)
set_option maxHeartbeats 8000000 in
set_option maxRecDepth 100000 in
theorem spec_l20Begin.calls (k : Nat) (A0 : Option Addr) (c0 : Nat) (l0 : List (S37)) (a1 : Int) (r : Int) (w : World) (hr0 : Kd.C k37 w A0 l0.length l0) (hc0 : l0.length ≤ c0) (h : spec_l20Begin.f k l0 a1 = some r) :
  Calls Try.prog 68 #[.slice A0 l0.length c0, .int .i64 a1] w fun e w' => e = .returned (.int .i64 r) ∧ Below w.heap.size w w' := by
 have HR0 := za hr0
 have HC0 := za hc0
 clear hr0 hc0
 have HB := za (Below.refl w.heap.size w)
 have H : (if (l0.length : Int) > 4096 then (some 2) else ((spec_StopsOK.f k l0).bind fun t195 => (if t195 = true then ((spec_l01In.f a1 0 100000).bind fun t196 => (if t196 = true then (some 0) else (some 5))) else (some 1)))) = some r := h
 clear h
 by_cases c3 : (l0.length : Int) > 4096
 ·rw [if_pos c3] at H
  have c3b0 : decide (4096 < (l0.length : Int)) = true := decide_eq_true c3
  have c3b1 : decide (4096 < l0.length) = true := decide_eq_true (by omega)
  clear c3
  obtain rfl := Option.some.inj H
  go_enter Try.func68, Try.ntmps68
  go_wp2
  go_ret
  exact zH32
 rw [if_neg c3] at H
 have c3b0 : decide (4096 < (l0.length : Int)) = false := decide_eq_false c3
 have c3b1 : decide (4096 < l0.length) = false := decide_eq_false (by omega)
 clear c3
 replace H := Option.bind_eq_some_iff.mp H
 obtain ⟨t195, A40, H⟩ := H
 replace H : (if t195 = true then ((spec_l01In.f a1 0 100000).bind fun t196 => (if t196 = true then (some 0) else (some 5))) else (some 1)) = some r := H
 have A4 := za A40
 clear A40
 by_cases c5 : t195 = true
 rotate_left
 ·replace c5 := Bool.eq_false_iff.mpr c5
  subst c5
  have H1 : (some 1) = some r := by rw [if_neg (show ¬ (false = true) by decide)] at H; exact H
  clear H
  have H := H1
  clear H1
  obtain rfl := Option.some.inj H
  go_enter Try.func68, Try.ntmps68
  go_wp2_with (first | ((with_reducible refine gate_callee (f := 121) rfl ?_); refine goesL_ (some 9) rfl rfl Try.func121 zG101 rfl #[.slice A0 l0.length c0] rfl zG68 ?_; (with_reducible refine (spec_StopsOK.calls k _ _ l0 false _ ?side1 ?side2 A4.out).mono ?_); (case side1 => exact zH60); (case side2 => exact zH103); rintro e w10 ⟨rfl, hb⟩; refine ⟨_, rfl, ?_⟩; replace HB := za (zu zG76 hb); (try clear hb)))
  go_ret
  exact zH32

 subst c5
 have H1 : ((spec_l01In.f a1 0 100000).bind fun t196 => (if t196 = true then (some 0) else (some 5))) = some r := by rw [if_pos rfl] at H; exact H
 clear H
 have H := H1
 clear H1
 replace H := Option.bind_eq_some_iff.mp H
 obtain ⟨t196, A60, H⟩ := H
 replace H : (if t196 = true then (some 0) else (some 5)) = some r := H
 have A6 := za A60
 clear A60
 by_cases c7 : t196 = true
 ·subst c7
  have H1 : (some 0) = some r := by rw [if_pos rfl] at H; exact H
  clear H
  have H := H1
  clear H1
  obtain rfl := Option.some.inj H
  go_enter Try.func68, Try.ntmps68
  go_wp2_with (first | ((with_reducible refine gate_callee (f := 121) rfl ?_); refine goesL_ (some 9) rfl rfl Try.func121 zG101 rfl #[.slice A0 l0.length c0] rfl zG68 ?_; (with_reducible refine (spec_StopsOK.calls k _ _ l0 true _ ?side1 ?side2 A4.out).mono ?_); (case side1 => exact zH60); (case side2 => exact zH103); rintro e w8 ⟨rfl, hb⟩; refine ⟨_, rfl, ?_⟩; replace HB := za (zu zG76 hb); (try clear hb)) | ((with_reducible refine gate_callee (f := 122) rfl ?_); refine goesL_ (some 12) rfl rfl Try.func122 zG101 rfl #[.int .i64 a1, .int .i64 0, .int .i64 100000] rfl zG68 ?_; (with_reducible refine (spec_l01In.calls a1 0 100000 true _ A6.out).mono ?_); rintro e w' ⟨rfl, ⟨nd, rfl⟩⟩; refine ⟨_, rfl, ?_⟩))
  go_ret
  exact zH32
 replace c7 := Bool.eq_false_iff.mpr c7
 subst c7
 have H1 : (some 5) = some r := by rw [if_neg (show ¬ (false = true) by decide)] at H; exact H
 clear H
 have H := H1
 clear H1
 obtain rfl := Option.some.inj H
 go_enter Try.func68, Try.ntmps68
 go_wp2_with (first | ((with_reducible refine gate_callee (f := 121) rfl ?_); refine goesL_ (some 9) rfl rfl Try.func121 zG101 rfl #[.slice A0 l0.length c0] rfl zG68 ?_; (with_reducible refine (spec_StopsOK.calls k _ _ l0 true _ ?side1 ?side2 A4.out).mono ?_); (case side1 => exact zH60); (case side2 => exact zH103); rintro e w9 ⟨rfl, hb⟩; refine ⟨_, rfl, ?_⟩; replace HB := za (zu zG76 hb); (try clear hb)) | ((with_reducible refine gate_callee (f := 122) rfl ?_); refine goesL_ (some 12) rfl rfl Try.func122 zG101 rfl #[.int .i64 a1, .int .i64 0, .int .i64 100000] rfl zG68 ?_; (with_reducible refine (spec_l01In.calls a1 0 100000 false _ A6.out).mono ?_); rintro e w' ⟨rfl, ⟨nd, rfl⟩⟩; refine ⟨_, rfl, ?_⟩))
 go_ret
 exact zH32
/-! ### spec_l20Far: function 145 -/
def spec_l20Far.f (a0_0 : Int) (a0_1 : Int) (a0_2 : Int) (a0_3 : Int) (a0_4 : Int) (a1_0 : Int) (a1_1 : Int) (a1_2 : Int) (a1_3 : Int) (a1_4 : Int) : Option (Int) := some (wrap64 ((mx (wrap64 (a0_0 - a1_0)) (wrap64 (a1_0 - a0_0))) + (mx (wrap64 (a0_1 - a1_1)) (wrap64 (a1_1 - a0_1)))))
set_option maxHeartbeats 8000000 in
set_option maxRecDepth 100000 in
theorem spec_l20Far.calls (a0_0 : Int) (a0_1 : Int) (a0_2 : Int) (a0_3 : Int) (a0_4 : Int) (a1_0 : Int) (a1_1 : Int) (a1_2 : Int) (a1_3 : Int) (a1_4 : Int) (r : Int) (w : World) (h : spec_l20Far.f a0_0 a0_1 a0_2 a0_3 a0_4 a1_0 a1_1 a1_2 a1_3 a1_4 = some r) :
  Calls Try.prog 145 #[.agg #[.int .i64 a0_0, .int .i64 a0_1, .int .i64 a0_2, .int .i64 a0_3, .int .i64 a0_4], .agg #[.int .i64 a1_0, .int .i64 a1_1, .int .i64 a1_2, .int .i64 a1_3, .int .i64 a1_4]] w fun e w' => e = .returned (.int .i64 r) ∧ Below w.heap.size w w' := by
 have hu37 := Try.underlying37
 have HB := za (Below.refl w.heap.size w)
 have H : (some (wrap64 ((mx (wrap64 (a0_0 - a1_0)) (wrap64 (a1_0 - a0_0))) + (mx (wrap64 (a0_1 - a1_1)) (wrap64 (a1_1 - a0_1)))))) = some r := h
 clear h
 obtain ⟨ji3, hji3⟩ : ∃ j_ : Int, (mx (wrap64 (a0_0 - a1_0)) (wrap64 (a1_0 - a0_0))) = j_ := ⟨_, rfl⟩
 replace H : (some (wrap64 ((ji3) + (mx (wrap64 (a0_1 - a1_1)) (wrap64 (a1_1 - a0_1)))))) = some r := by first | (rw [hji3] at H; exact H) | (simp only [hji3] at H ⊢; exact H)
 have hji3_ : (if (wrap64 (a0_0 - a1_0)) < (wrap64 (a1_0 - a0_0)) then (wrap64 (a1_0 - a0_0)) else (wrap64 (a0_0 - a1_0))) = ji3 := hji3
 obtain ⟨ji4, hji4⟩ : ∃ j_ : Int, (mx (wrap64 (a0_1 - a1_1)) (wrap64 (a1_1 - a0_1))) = j_ := ⟨_, rfl⟩
 replace H : (some (wrap64 ((ji3) + (ji4)))) = some r := by first | (rw [hji4] at H; exact H) | (simp only [hji4] at H ⊢; exact H)
 have hji4_ : (if (wrap64 (a0_1 - a1_1)) < (wrap64 (a1_1 - a0_1)) then (wrap64 (a1_1 - a0_1)) else (wrap64 (a0_1 - a1_1))) = ji4 := hji4
 obtain rfl := Option.some.inj H
 go_enter Try.func145, Try.ntmps145
 go_wp2_with (first | ((with_reducible refine gate_dst (N := 2) rfl ?_); refine box_event ?hg (N := 2) ?hd (cs := #[.int .i64 a0_0, .int .i64 a0_1, .int .i64 a0_2, .int .i64 a0_3, .int .i64 a0_4]) (t := 37) ?hr ?_; (case hd => rfl); (case hg => rfl); (case hr => exact zH99); intro gb197 hg w5 hbox hb; have n_ := zA_ (za (zu zG76 hb)) (zA_ (za (hbox)) (zA_ (za ((by rw [hg]; exact (zq zG76) : w.heap.size ≤ gb197))) (za ((by rw [hg]; exact (zq zG76) : w.heap.size ≤ gb197))))); clear HB; obtain ⟨HB, BK197, GW197, GE197⟩ := n_; clear hb hbox hg) | ((with_reducible refine gate_dst (N := 3) rfl ?_); refine box_event ?hg (N := 3) ?hd (cs := #[.int .i64 a1_0, .int .i64 a1_1, .int .i64 a1_2, .int .i64 a1_3, .int .i64 a1_4]) (t := 37) ?hr ?_; (case hd => rfl); (case hg => rfl); (case hr => exact zH99); intro gb198 hg w6 hbox hb; have n_ := zA_ (za (zr (g := gb197) (o := .cells #[.int .i64 a0_0, .int .i64 a0_1, .int .i64 a0_2, .int .i64 a0_3, .int .i64 a0_4] 37 (0, 0)) zK178 hb)) (zA_ (za (zu zK169 hb)) (zA_ (za (hbox)) (zA_ (za ((by rw [hg]; exact (zq zK169) : w.heap.size ≤ gb198))) (zA_ (za ((by rw [hg]; exact (zq zK169) : w.heap.size ≤ gb198))) (zA_ (za ((by rw [hg]; exact Nat.ne_of_lt (zx (g := gb197) (o := .cells #[.int .i64 a0_0, .int .i64 a0_1, .int .i64 a0_2, .int .i64 a0_3, .int .i64 a0_4] 37 (0, 0)) zK178) : gb197 ≠ gb198))) (za ((by rw [hg]; exact Nat.ne_of_gt (zx (g := gb197) (o := .cells #[.int .i64 a0_0, .int .i64 a0_1, .int .i64 a0_2, .int .i64 a0_3, .int .i64 a0_4] 37 (0, 0)) zK178) : gb198 ≠ gb197)))))))); clear BK197 HB; obtain ⟨BK197, HB, BK198, GW198, GE198, NB197_198, NB198_197⟩ := n_; clear hb hbox hg; have hnb7 := NB197_198.out; have hnc7 := NB198_197.out; have hcz8_0 : w6.cell? ⟨gb197, 0, none⟩ = some (.int .i64 a0_0) := (zg BK197.out 0).trans rfl; have hcz8_1 : w6.cell? ⟨gb197, 1, none⟩ = some (.int .i64 a0_1) := (zg BK197.out 1).trans rfl; have hcz8_2 : w6.cell? ⟨gb197, 2, none⟩ = some (.int .i64 a0_2) := (zg BK197.out 2).trans rfl; have hcz8_3 : w6.cell? ⟨gb197, 3, none⟩ = some (.int .i64 a0_3) := (zg BK197.out 3).trans rfl; have hcz8_4 : w6.cell? ⟨gb197, 4, none⟩ = some (.int .i64 a0_4) := (zg BK197.out 4).trans rfl; have hfz8_0 := zh BK197.out 0; have hfz8_1 := zh BK197.out 1; have hfz8_2 := zh BK197.out 2; have hfz8_3 := zh BK197.out 3; have hfz8_4 := zh BK197.out 4; have hcz9_0 : w6.cell? ⟨gb198, 0, none⟩ = some (.int .i64 a1_0) := (zg BK198.out 0).trans rfl; have hcz9_1 : w6.cell? ⟨gb198, 1, none⟩ = some (.int .i64 a1_1) := (zg BK198.out 1).trans rfl; have hcz9_2 : w6.cell? ⟨gb198, 2, none⟩ = some (.int .i64 a1_2) := (zg BK198.out 2).trans rfl; have hcz9_3 : w6.cell? ⟨gb198, 3, none⟩ = some (.int .i64 a1_3) := (zg BK198.out 3).trans rfl; have hcz9_4 : w6.cell? ⟨gb198, 4, none⟩ = some (.int .i64 a1_4) := (zg BK198.out 4).trans rfl; have hfz9_0 := zh BK198.out 0; have hfz9_1 := zh BK198.out 1; have hfz9_2 := zh BK198.out 2; have hfz9_3 := zh BK198.out 3; have hfz9_4 := zh BK198.out 4))
 go_ret
 exact ⟨by first | rfl | (simp [errW_none, errW_some] <;> rfl) | (simp only [← hji3, ← hji4]; first | rfl | (simp [errW_none, errW_some] <;> rfl)) | (simp [*, errW_none, errW_some] <;> rfl), by repeat (first | (with_reducible first | exact HB.out | apply zj | apply ze | apply zi | refine zf ?_ GE197.out | refine zf ?_ GE198.out) | exact HB.out)⟩

/-! ### spec_l20Route: function 123 -/
def spec_l20Route.l0 : Nat → List (S37) → List Int → Int → Int → List Int → List Int → Int → Int → Int → Int → Int → Int → Int → Option (List Int × List Int × Int × Int × Bool)
 | 0, _, _, _, _, _, _, _, _, _, _, _, _, _ => none
 | k + 1, x0, x2, x10, x11, x201000, x201001, x201002, x201003, x202000, x202001, x202002, x202003, x202004 => if x11 < (x2.length : Int) then (if 0 ≤ x11 then (if 0 ≤ (rd x2 x11) then (if (rd x2 x11) < (x0.length : Int) then ((spec_l20Far.f x202000 x202001 x202002 x202003 x202004 ((rd_T37 x0 (rd x2 x11)).f0) ((rd_T37 x0 (rd x2 x11)).f1) ((rd_T37 x0 (rd x2 x11)).f2) ((rd_T37 x0 (rd x2 x11)).f3) ((rd_T37 x0 (rd x2 x11)).f4)).bind fun t205 => (if (wrap64 (x10 + t205)) > ((rd_T37 x0 (rd x2 x11)).f3) then (some (([] : List Int), ([] : List Int), 0, 0, false)) else (if x201000.length < 17592186044416 then (if x201001.length < 17592186044416 then (spec_l20Route.l0 k x0 x2 (wrap64 ((mx (wrap64 (x10 + t205)) ((rd_T37 x0 (rd x2 x11)).f2)) + ((rd_T37 x0 (rd x2 x11)).f4))) (wrap64 (x11 + 1)) (x201000 ++ [rd x2 x11]) (x201001 ++ [wrap64 (x10 + t205)]) (wrap64 (x201002 + (mx 0 (wrap64 (((rd_T37 x0 (rd x2 x11)).f2) - (wrap64 (x10 + t205))))))) x201003 ((rd_T37 x0 (rd x2 x11)).f0) ((rd_T37 x0 (rd x2 x11)).f1) ((rd_T37 x0 (rd x2 x11)).f2) ((rd_T37 x0 (rd x2 x11)).f3) ((rd_T37 x0 (rd x2 x11)).f4)) else (none)) else (none)))) else (none)) else (none)) else (none)) else ((spec_l20Far.f x202000 x202001 x202002 x202003 x202004 0 0 0 0 0).bind fun t213 => (some (x201000, x201001, x201002, wrap64 (x10 + t213), true)))
def spec_l20Route.f (k : Nat) (l0 : List (S37)) (a1 : Int) (l2 : List Int) : Option (List Int × List Int × Int × Int × Bool) := spec_l20Route.l0 k l0 l2 a1 0 ([] : List Int) ([] : List Int) 0 0 0 0 0 0 0
theorem spec_l20Route.mono_l : ∀ k, (∀ y0 y1 y2 y3 y4 y5 y6 y7 y8 y9 y10 y11 y12, LeO (spec_l20Route.l0 k y0 y1 y2 y3 y4 y5 y6 y7 y8 y9 y10 y11 y12) (spec_l20Route.l0 (k + 1) y0 y1 y2 y3 y4 y5 y6 y7 y8 y9 y10 y11 y12))
 | 0 => fun _ _ _ _ _ _ _ _ _ _ _ _ _ r h => by simp [spec_l20Route.l0] at h
 | k + 1 => by
  have ih0 := spec_l20Route.mono_l k
  ·intro y0 y1 y2 y3 y4 y5 y6 y7 y8 y9 y10 y11 y12
   unfold spec_l20Route.l0
   repeat' first
   | (with_reducible exact ih0 _ _ _ _ _ _ _ _ _ _ _ _ _)
   | (with_reducible exact LeO.refl _)
   | (with_reducible exact LeO.none _)
   | (with_reducible refine LeO.ite ?_ ?_)
   | (with_reducible refine LeO.bind ?_ (fun _ => ?_))
   | exact ih0 _ _ _ _ _ _ _ _ _ _ _ _ _
   | exact LeO.none _
   | refine LeO.ite ?_ ?_
   | refine LeO.bind ?_ (fun _ => ?_)
theorem spec_l20Route.mono : ∀ a0 a1 a2 k, LeO (spec_l20Route.f k a0 a1 a2) (spec_l20Route.f (k + 1) a0 a1 a2) := by
 intro a0 a1 a2 k
 have ih0 := spec_l20Route.mono_l k
 unfold spec_l20Route.f
 repeat' first
   | (with_reducible exact ih0 _ _ _ _ _ _ _ _ _ _ _ _ _)
   | (with_reducible exact LeO.refl _)
   | (with_reducible exact LeO.none _)
   | (with_reducible refine LeO.ite ?_ ?_)
   | (with_reducible refine LeO.bind ?_ (fun _ => ?_))
   | exact ih0 _ _ _ _ _ _ _ _ _ _ _ _ _
   | exact LeO.none _
   | refine LeO.ite ?_ ?_
   | refine LeO.bind ?_ (fun _ => ?_)
def spec_l20Route.T11 : Bool × List (List Nat × List Nat) := (true, [([], []), ([0], [0]), ([], []), ([], []), ([2, 3], [2, 3]), ([4], [4]), ([5], [5]), ([1, 6], [1, 6]), ([0, 1, 2, 3, 4, 5, 6, 7], []), ([8, 7, 7, 0, 1, 2, 3, 4, 5, 6, 7], [7, 8])])
def spec_l20Route.B11 : List Nat := [0, 1, 0, 0, 12, 28, 60, 127, 255, 511]
theorem spec_l20Route.tab11 : rtab .any (opsOf Try.f123 11) = spec_l20Route.T11 := by kernel_rfl
theorem spec_l20Route.bits11 : waitsOk spec_l20Route.T11.2 spec_l20Route.B11 = true := by kernel_rfl
set_option maxHeartbeats 8000000 in
set_option maxRecDepth 100000 in
theorem spec_l20Route.calls (k : Nat) (A0 : Option Addr) (c0 : Nat) (l0 : List (S37)) (a1 : Int) (A2 : Option Addr) (c2 : Nat) (l2 : List Int) (r1 : List Int) (r2 : List Int) (r3 : Int) (r4 : Int) (r5 : Bool) (w : World) (hr0 : Kd.C k37 w A0 l0.length l0) (hc0 : l0.length ≤ c0) (hr2 : Kd.C (Kd.int .i64) w A2 l2.length l2) (hc2 : l2.length ≤ c2) (h : spec_l20Route.f k l0 a1 l2 = some (r1, r2, r3, r4, r5)) :
  Calls Try.prog 123 #[.slice A0 l0.length c0, .int .i64 a1, .slice A2 l2.length c2] w fun e w' => ∃ v0_ v1_ : Value, e = .returned (.tuple #[.agg #[v0_, v1_, .int .i64 r3, .int .i64 r4], .bool r5]) ∧ Kd.R (Kd.int .i64) 3 w' w.heap.size (fun k_ => some k_ ≠ (v1_ : Value).ownBlock) v0_ r1 ∧ Kd.R (Kd.int .i64) 3 w' w.heap.size (fun k_ => some k_ ≠ (v0_ : Value).ownBlock) v1_ r2 ∧ Below w.heap.size w w' := by
 have hu28 := Try.underlying28
 have hu37 := Try.underlying37
 have HR0 := za hr0
 have HC0 := za hc0
 clear hr0 hc0
 have HR2 := za hr2
 have HC2 := za hc2
 clear hr2 hc2
 have HB := za (Below.refl w.heap.size w)
 have H : (spec_l20Route.l0 k l0 l2 a1 0 ([] : List Int) ([] : List Int) 0 0 0 0 0 0 0) = some (r1, r2, r3, r4, r5) := h
 clear h
 have H' := za H
 clear H
 go_enter Try.func123, Try.ntmps123
 go_wp2_with (first | ((with_reducible refine gate_dst (N := 6) rfl ?_); refine box_event ?hg (N := 6) ?hd (cs := #[.slice none 0 0, .slice none 0 0, .int .i64 0, .int .i64 0]) (t := 28) ?hr ?_; (case hd => rfl); (case hg => rfl); (case hr => exact zH99); intro gb199 hg w4 hbox hb; have n_ := zA_ (za (zu zG76 hb)) (zA_ (za (hbox)) (zA_ (za ((by rw [hg]; exact (zq zG76) : w.heap.size ≤ gb199))) (za ((by rw [hg]; exact (zq zG76) : w.heap.size ≤ gb199))))); clear HB; obtain ⟨HB, BK199, GW199, GE199⟩ := n_; clear hb hbox hg) | ((with_reducible refine gate_dst (N := 8) rfl ?_); refine box_event ?hg (N := 8) ?hd (cs := #[.slice none 0 0, .slice none 0 0, .int .i64 0, .int .i64 0]) (t := 28) ?hr ?_; (case hd => rfl); (case hg => rfl); (case hr => exact zH99); intro gb200 hg w5 hbox hb; have n_ := zA_ (za (zr (g := gb199) (o := .cells #[.slice none 0 0, .slice none 0 0, .int .i64 0, .int .i64 0] 28 (0, 0)) zK179 hb)) (zA_ (za (zu zK170 hb)) (zA_ (za (hbox)) (zA_ (za ((by rw [hg]; exact (zq zK170) : w.heap.size ≤ gb200))) (zA_ (za ((by rw [hg]; exact (zq zK170) : w.heap.size ≤ gb200))) (zA_ (za ((by rw [hg]; exact Nat.ne_of_lt (zx (g := gb199) (o := .cells #[.slice none 0 0, .slice none 0 0, .int .i64 0, .int .i64 0] 28 (0, 0)) zK179) : gb199 ≠ gb200))) (za ((by rw [hg]; exact Nat.ne_of_gt (zx (g := gb199) (o := .cells #[.slice none 0 0, .slice none 0 0, .int .i64 0, .int .i64 0] 28 (0, 0)) zK179) : gb200 ≠ gb199)))))))); clear BK199 HB; obtain ⟨BK199, HB, BK200, GW200, GE200, NB199_200, NB200_199⟩ := n_; clear hb hbox hg; have hnb6 := NB200_199.out; have hnc6 := NB199_200.out; have hcz7_0 : w5.cell? ⟨gb200, 0, none⟩ = some (.slice none 0 0) := (zg BK200.out 0).trans rfl; have hcz7_1 : w5.cell? ⟨gb200, 1, none⟩ = some (.slice none 0 0) := (zg BK200.out 1).trans rfl; have hcz7_2 : w5.cell? ⟨gb200, 2, none⟩ = some (.int .i64 0) := (zg BK200.out 2).trans rfl; have hcz7_3 : w5.cell? ⟨gb200, 3, none⟩ = some (.int .i64 0) := (zg BK200.out 3).trans rfl; have hfz7_0 := zh BK200.out 0; have hfz7_1 := zh BK200.out 1; have hfz7_2 := zh BK200.out 2; have hfz7_3 := zh BK200.out 3) | ((with_reducible refine gate_dst (N := 9) rfl ?_); refine box_event ?hg (N := 9) ?hd (cs := #[.int .i64 0, .int .i64 0, .int .i64 0, .int .i64 0, .int .i64 0]) (t := 37) ?hr ?_; (case hd => rfl); (case hg => rfl); (case hr => exact zH99); intro gb201 hg w8 hbox hb; have n_ := zA_ (za (zr (g := gb199) (o := .cells #[.slice none 0 0, .slice none 0 0, .int .i64 0, .int .i64 0] 28 (0, 0)) zK126 hb)) (zA_ (za (zr (g := gb200) (o := .cells #[.slice none 0 0, .slice none 0 0, .int .i64 0, .int .i64 0] 28 (0, 0)) zK109 hb)) (zA_ (za (zu zK163 hb)) (zA_ (za (hbox)) (zA_ (za ((by rw [hg]; exact (zq zK163) : w.heap.size ≤ gb201))) (zA_ (za ((by rw [hg]; exact (zq zK163) : w.heap.size ≤ gb201))) (zA_ (za ((by rw [hg]; exact Nat.ne_of_lt (zx (g := gb199) (o := .cells #[.slice none 0 0, .slice none 0 0, .int .i64 0, .int .i64 0] 28 (0, 0)) zK126) : gb199 ≠ gb201))) (zA_ (za ((by rw [hg]; exact Nat.ne_of_gt (zx (g := gb199) (o := .cells #[.slice none 0 0, .slice none 0 0, .int .i64 0, .int .i64 0] 28 (0, 0)) zK126) : gb201 ≠ gb199))) (zA_ (za ((by rw [hg]; exact Nat.ne_of_lt (zx (g := gb200) (o := .cells #[.slice none 0 0, .slice none 0 0, .int .i64 0, .int .i64 0] 28 (0, 0)) zK109) : gb200 ≠ gb201))) (za ((by rw [hg]; exact Nat.ne_of_gt (zx (g := gb200) (o := .cells #[.slice none 0 0, .slice none 0 0, .int .i64 0, .int .i64 0] 28 (0, 0)) zK109) : gb201 ≠ gb200))))))))))); clear BK199 BK200 HB; obtain ⟨BK199, BK200, HB, BK201, GW201, GE201, NB199_201, NB201_199, NB200_201, NB201_200⟩ := n_; clear hb hbox hg; have hnb9 := NB201_199.out; have hnc9 := NB199_201.out; have hnb10 := NB201_200.out; have hnc10 := NB200_201.out; have hcz11_0 : w8.cell? ⟨gb201, 0, none⟩ = some (.int .i64 0) := (zg BK201.out 0).trans rfl; have hcz11_1 : w8.cell? ⟨gb201, 1, none⟩ = some (.int .i64 0) := (zg BK201.out 1).trans rfl; have hcz11_2 : w8.cell? ⟨gb201, 2, none⟩ = some (.int .i64 0) := (zg BK201.out 2).trans rfl; have hcz11_3 : w8.cell? ⟨gb201, 3, none⟩ = some (.int .i64 0) := (zg BK201.out 3).trans rfl; have hcz11_4 : w8.cell? ⟨gb201, 4, none⟩ = some (.int .i64 0) := (zg BK201.out 4).trans rfl; have hfz11_0 := zh BK201.out 0; have hfz11_1 := zh BK201.out 1; have hfz11_2 := zh BK201.out 2; have hfz11_3 := zh BK201.out 3; have hfz11_4 := zh BK201.out 4))
 go_loopg [10, 11] k (fun kq v10 v11 w' => ∃ (x10_1 : Int) (x11_1 : Int) (x200002_1 : Int) (x200003_1 : Int) (x201000_1 : List Int) (x201001_1 : List Int) (x201002_1 : Int) (x202000_1 : Int) (x202001_1 : Int) (x202002_1 : Int) (x202003_1 : Int) (x202004_1 : Int) (u201000 : Value) (u201001 : Value), v10 = .int .i64 x10_1 ∧ v11 = .int .i64 x11_1 ∧ Aside0 (spec_l20Route.l0 kq l0 l2 x10_1 x11_1 x201000_1 x201001_1 x201002_1 0 x202000_1 x202001_1 x202002_1 x202003_1 x202004_1 = some (r1, r2, r3, r4, r5)) ∧ Aside0 (kq ≤ k) ∧ Aside0 (Kd.R (Kd.int .i64) 3 w' w.heap.size (fun k_ => some k_ ≠ (u201001 : Value).ownBlock) u201000 x201000_1) ∧ Aside0 (Kd.R (Kd.int .i64) 3 w' w.heap.size (fun k_ => some k_ ≠ (u201000 : Value).ownBlock) u201001 x201001_1) ∧ Aside0 (w'.heap[gb199]? = some (.cells #[(.slice none 0 0), (.slice none 0 0), .int .i64 x200002_1, .int .i64 x200003_1] 28 (0, 0))) ∧ Aside0 (w'.heap[gb200]? = some (.cells #[u201000, u201001, .int .i64 x201002_1, .int .i64 0] 28 (0, 0))) ∧ Aside0 (w'.heap[gb201]? = some (.cells #[.int .i64 x202000_1, .int .i64 x202001_1, .int .i64 x202002_1, .int .i64 x202003_1, .int .i64 x202004_1] 37 (0, 0))) ∧ Aside0 (Below w.heap.size w w'))
 case atStart => exact ⟨(a1), (0), (0), (0), (([] : List Int)), (([] : List Int)), (0), (0), (0), (0), (0), (0), (.slice none 0 0), (.slice none 0 0), zG100, zG100, H', ⟨Nat.le_refl _⟩, ⟨zH67⟩, ⟨zH67⟩, ⟨by (with_reducible repeat (first | refine zc ?_ _ | refine zd ?_ | refine zb ?_ _)); refine zs ?_ NB199_201.out _; (with_reducible repeat (first | refine zc ?_ _ | refine zd ?_ | refine zb ?_ _)); refine zs ?_ NB199_201.out _; (with_reducible repeat (first | refine zc ?_ _ | refine zd ?_ | refine zb ?_ _)); refine zs ?_ NB199_201.out _; (with_reducible repeat (first | refine zc ?_ _ | refine zd ?_ | refine zb ?_ _)); refine zs ?_ NB199_201.out _; (with_reducible repeat (first | refine zc ?_ _ | refine zd ?_ | refine zb ?_ _)); refine zs ?_ NB199_201.out _; (with_reducible repeat (first | refine zc ?_ _ | refine zd ?_ | refine zb ?_ _)); exact BK199.out⟩, ⟨by (with_reducible repeat (first | refine zc ?_ _ | refine zd ?_ | refine zb ?_ _)); refine zs ?_ NB200_201.out _; (with_reducible repeat (first | refine zc ?_ _ | refine zd ?_ | refine zb ?_ _)); refine zs ?_ NB200_201.out _; (with_reducible repeat (first | refine zc ?_ _ | refine zd ?_ | refine zb ?_ _)); refine zs ?_ NB200_201.out _; (with_reducible repeat (first | refine zc ?_ _ | refine zd ?_ | refine zb ?_ _)); refine zs ?_ NB200_201.out _; (with_reducible repeat (first | refine zc ?_ _ | refine zd ?_ | refine zb ?_ _)); refine zs ?_ NB200_201.out _; (with_reducible repeat (first | refine zc ?_ _ | refine zd ?_ | refine zb ?_ _)); exact BK200.out⟩, ⟨by (with_reducible repeat (first | refine zc ?_ _ | refine zd ?_ | refine zb ?_ _)); refine zw (cs := #[.int .i64 0, .int .i64 0, .int .i64 0, .int .i64 0, .int .i64 0]) ?_ 4 _ rfl; (with_reducible repeat (first | refine zc ?_ _ | refine zd ?_ | refine zb ?_ _)); refine zw (cs := #[.int .i64 0, .int .i64 0, .int .i64 0, .int .i64 0, .int .i64 0]) ?_ 3 _ rfl; (with_reducible repeat (first | refine zc ?_ _ | refine zd ?_ | refine zb ?_ _)); refine zw (cs := #[.int .i64 0, .int .i64 0, .int .i64 0, .int .i64 0, .int .i64 0]) ?_ 2 _ rfl; (with_reducible repeat (first | refine zc ?_ _ | refine zd ?_ | refine zb ?_ _)); refine zw (cs := #[.int .i64 0, .int .i64 0, .int .i64 0, .int .i64 0, .int .i64 0]) ?_ 1 _ rfl; (with_reducible repeat (first | refine zc ?_ _ | refine zd ?_ | refine zb ?_ _)); refine zw (cs := #[.int .i64 0, .int .i64 0, .int .i64 0, .int .i64 0, .int .i64 0]) ?_ 0 _ rfl; (with_reducible repeat (first | refine zc ?_ _ | refine zd ?_ | refine zb ?_ _)); exact BK201.out⟩, ⟨zH38⟩⟩
 case round =>
  clear H'
  try clear c1
  try clear c2
  try clear p2
  try clear c6
  try clear c9
  try clear c10
  try clear hcz11_0
  try clear hcz11_1
  try clear hcz11_2
  try clear hcz11_3
  try clear hcz11_4
  try clear hcz7_0
  try clear hcz7_1
  try clear hcz7_2
  try clear hcz7_3
  try clear hfz11_0
  try clear hfz11_1
  try clear hfz11_2
  try clear hfz11_3
  try clear hfz11_4
  try clear hfz7_0
  try clear hfz7_1
  try clear hfz7_2
  try clear hfz7_3
  obtain ⟨x10_1, x11_1, x200002_1, x200003_1, x201000_1, x201001_1, x201002_1, x202000_1, x202001_1, x202002_1, x202003_1, x202004_1, u201000, u201001, rfl, rfl, HA, HK1, HO_201000, HO_201001, BK199, BK200, BK201, HB⟩ := hrel
  cases gk with
  | zero => exact absurd HA.out (by simp [spec_l20Route.l0])
  | succ k1 =>
   have H := HA.out
   clear HA
   simp only [spec_l20Route.l0] at H
   by_cases c12 : x11_1 < (l2.length : Int)
   rotate_left
   ·rw [if_neg c12] at H
    have c12b0 := decide_eq_false c12
    clear c12
    replace H := Option.bind_eq_some_iff.mp H
    obtain ⟨t213, A550, H⟩ := H
    replace H : (some (x201000_1, x201001_1, x201002_1, wrap64 (x10_1 + t213), true)) = some (r1, r2, r3, r4, r5) := H
    have A55 := za A550
    clear A550
    simp only [Option.some.injEq, Prod.mk.injEq] at H
    obtain ⟨rfl, rfl, rfl, rfl, rfl⟩ := H
    have hnb56 := NB201_199.out
    have hnc56 := NB199_201.out
    have hnb57 := NB201_200.out
    have hnc57 := NB200_201.out
    have hcz58_0 : wr.cell? ⟨gb201, 0, none⟩ = some (.int .i64 x202000_1) := (zg BK201.out 0).trans rfl
    have hcz58_1 : wr.cell? ⟨gb201, 1, none⟩ = some (.int .i64 x202001_1) := (zg BK201.out 1).trans rfl
    have hcz58_2 : wr.cell? ⟨gb201, 2, none⟩ = some (.int .i64 x202002_1) := (zg BK201.out 2).trans rfl
    have hcz58_3 : wr.cell? ⟨gb201, 3, none⟩ = some (.int .i64 x202003_1) := (zg BK201.out 3).trans rfl
    have hcz58_4 : wr.cell? ⟨gb201, 4, none⟩ = some (.int .i64 x202004_1) := (zg BK201.out 4).trans rfl
    have hfz58_0 := zh BK201.out 0
    have hfz58_1 := zh BK201.out 1
    have hfz58_2 := zh BK201.out 2
    have hfz58_3 := zh BK201.out 3
    have hfz58_4 := zh BK201.out 4
    go_wp2_with (first | ((with_reducible refine gate_callee (f := 145) rfl ?_); refine goesL_ (some 74) rfl rfl Try.func145 zG101 rfl #[.agg #[.int .i64 x202000_1, .int .i64 x202001_1, .int .i64 x202002_1, .int .i64 x202003_1, .int .i64 x202004_1], .agg #[.int .i64 0, .int .i64 0, .int .i64 0, .int .i64 0, .int .i64 0]] rfl zG68 ?_; (with_reducible refine (spec_l20Far.calls x202000_1 x202001_1 x202002_1 x202003_1 x202004_1 0 0 0 0 0 t213 _ A55.out).mono ?_); rintro e w59 ⟨rfl, hb⟩; refine ⟨_, rfl, ?_⟩; have n_ := zA_ (za (zt zK192 hb)) (zA_ (za (zt zK193 hb)) (zA_ (za (zr (g := gb199) (o := .cells #[.slice none 0 0, .slice none 0 0, .int .i64 x200002_1, .int .i64 x200003_1] 28 (0, 0)) zK179 hb)) (zA_ (za (zr (g := gb200) (o := .cells #[u201000, u201001, .int .i64 x201002_1, .int .i64 0] 28 (0, 0)) zK180 hb)) (zA_ (za (zr (g := gb201) (o := .cells #[.int .i64 x202000_1, .int .i64 x202001_1, .int .i64 x202002_1, .int .i64 x202003_1, .int .i64 x202004_1] 37 (0, 0)) zK181 hb)) (za (zu zK158 hb)))))); clear HO_201000 HO_201001 BK199 BK200 BK201 HB; obtain ⟨HO_201000, HO_201001, BK199, BK200, BK201, HB⟩ := n_; (try clear hb); have hnb60 := NB200_199.out; have hnc60 := NB199_200.out; have hcz61_0 : w59.cell? ⟨gb200, 0, none⟩ = some (u201000) := (zg BK200.out 0).trans rfl; have hcz61_1 : w59.cell? ⟨gb200, 1, none⟩ = some (u201001) := (zg BK200.out 1).trans rfl; have hcz61_2 : w59.cell? ⟨gb200, 2, none⟩ = some (.int .i64 x201002_1) := (zg BK200.out 2).trans rfl; have hcz61_3 : w59.cell? ⟨gb200, 3, none⟩ = some (.int .i64 0) := (zg BK200.out 3).trans rfl; have hfz61_0 := zh BK200.out 0; have hfz61_1 := zh BK200.out 1; have hfz61_2 := zh BK200.out 2; have hfz61_3 := zh BK200.out 3; obtain ⟨Ao62, co62, eo62⟩ := zaf HO_201000.out; subst eo62; have hcz63_0 : w59.cell? ⟨gb199, 0, none⟩ = some (.slice none 0 0) := (zg BK199.out 0).trans rfl; have hcz63_1 : w59.cell? ⟨gb199, 1, none⟩ = some (.slice none 0 0) := (zg BK199.out 1).trans rfl; have hcz63_2 : w59.cell? ⟨gb199, 2, none⟩ = some (.int .i64 x200002_1) := (zg BK199.out 2).trans rfl; have hcz63_3 : w59.cell? ⟨gb199, 3, none⟩ = some (.int .i64 x200003_1) := (zg BK199.out 3).trans rfl; have hfz63_0 := zh BK199.out 0; have hfz63_1 := zh BK199.out 1; have hfz63_2 := zh BK199.out 2; have hfz63_3 := zh BK199.out 3; obtain ⟨Ao64, co64, eo64⟩ := zaf HO_201001.out; subst eo64))
    refine bodyPost_ret (results_ct rfl _ _ gb199 28 #[.slice Ao62 x201000_1.length co62, .slice Ao64 x201001_1.length co64, .int .i64 x201002_1, .int .i64 (wrap64 (x10_1 + t213))] (0, 0) _ rfl (by (with_reducible repeat (first | refine zc ?_ _ | refine zd ?_ | refine zb ?_ _)); refine zw (cs := #[.slice Ao62 x201000_1.length co62, .slice Ao64 x201001_1.length co64, .int .i64 x201002_1, .int .i64 x200003_1]) ?_ 3 _ rfl; (with_reducible repeat (first | refine zc ?_ _ | refine zd ?_ | refine zb ?_ _)); refine zw (cs := #[.slice Ao62 x201000_1.length co62, .slice Ao64 x201001_1.length co64, .int .i64 x200002_1, .int .i64 x200003_1]) ?_ 2 _ rfl; (with_reducible repeat (first | refine zc ?_ _ | refine zd ?_ | refine zb ?_ _)); refine zw (cs := #[.slice Ao62 x201000_1.length co62, .slice none 0 0, .int .i64 x200002_1, .int .i64 x200003_1]) ?_ 1 _ rfl; (with_reducible repeat (first | refine zc ?_ _ | refine zd ?_ | refine zb ?_ _)); refine zw (cs := #[.slice none 0 0, .slice none 0 0, .int .i64 x200002_1, .int .i64 x200003_1]) ?_ 0 _ rfl; (with_reducible repeat (first | refine zc ?_ _ | refine zd ?_ | refine zb ?_ _)); refine zs ?_ NB199_200.out _; (with_reducible repeat (first | refine zc ?_ _ | refine zd ?_ | refine zb ?_ _)); exact BK199.out) Try.underlying28 rfl zG101) rfl ?_
    exact ⟨_, _, zH86, by (with_reducible repeat (first | apply zk | apply zl | apply zm)); exact zp (zn (p := ⟨gb199, 3, none⟩) (zn (p := ⟨gb199, 2, none⟩) (zn (p := ⟨gb199, 1, none⟩) (zn (p := ⟨gb199, 0, none⟩) (zn (p := ⟨gb200, 3, none⟩) (zv (zv HO_201000.out BK200.out zG102) BK199.out zG102) (fun _ hk => hk.1.2) (.int .i64 (wrap64 (x10_1 + t213)))) (fun _ hk => hk.2) (.slice Ao62 x201000_1.length co62)) (fun _ hk => hk.2) (.slice Ao64 x201001_1.length co64)) (fun _ hk => hk.2) (.int .i64 x201002_1)) (fun _ hk => hk.2) (.int .i64 (wrap64 (x10_1 + t213)))) (fun _ hk => hk.1.1), by (with_reducible repeat (first | apply zk | apply zl | apply zm)); exact zp (zn (p := ⟨gb199, 3, none⟩) (zn (p := ⟨gb199, 2, none⟩) (zn (p := ⟨gb199, 1, none⟩) (zn (p := ⟨gb199, 0, none⟩) (zn (p := ⟨gb200, 3, none⟩) (zv (zv HO_201001.out BK200.out zG102) BK199.out zG102) (fun _ hk => hk.1.2) (.int .i64 (wrap64 (x10_1 + t213)))) (fun _ hk => hk.2) (.slice Ao62 x201000_1.length co62)) (fun _ hk => hk.2) (.slice Ao64 x201001_1.length co64)) (fun _ hk => hk.2) (.int .i64 x201002_1)) (fun _ hk => hk.2) (.int .i64 (wrap64 (x10_1 + t213)))) (fun _ hk => hk.1.1), zH38⟩

   rw [if_pos c12] at H
   have c12b0 := decide_eq_true c12
   clear c12
   by_cases c13 : 0 ≤ x11_1
   rotate_left
   ·rw [if_neg c13] at H
    exact absurd H (by simp)
   rw [if_pos c13] at H
   have c13b0 := decide_eq_true c13
   clear c13
   by_cases c14 : 0 ≤ (rd l2 x11_1)
   rotate_left
   ·rw [if_neg c14] at H
    exact absurd H (by simp)
   rw [if_pos c14] at H
   have c14b0 := decide_eq_true c14
   clear c14
   by_cases c15 : (rd l2 x11_1) < (l0.length : Int)
   rotate_left
   ·rw [if_neg c15] at H
    exact absurd H (by simp)
   rw [if_pos c15] at H
   have c15b0 := decide_eq_true c15
   clear c15
   replace H := Option.bind_eq_some_iff.mp H
   obtain ⟨t205, A160, H⟩ := H
   replace H : (if (wrap64 (x10_1 + t205)) > ((rd_T37 l0 (rd l2 x11_1)).f3) then (some (([] : List Int), ([] : List Int), 0, 0, false)) else (if x201000_1.length < 17592186044416 then (if x201001_1.length < 17592186044416 then (spec_l20Route.l0 k1 l0 l2 (wrap64 ((mx (wrap64 (x10_1 + t205)) ((rd_T37 l0 (rd l2 x11_1)).f2)) + ((rd_T37 l0 (rd l2 x11_1)).f4))) (wrap64 (x11_1 + 1)) (x201000_1 ++ [rd l2 x11_1]) (x201001_1 ++ [wrap64 (x10_1 + t205)]) (wrap64 (x201002_1 + (mx 0 (wrap64 (((rd_T37 l0 (rd l2 x11_1)).f2) - (wrap64 (x10_1 + t205))))))) 0 ((rd_T37 l0 (rd l2 x11_1)).f0) ((rd_T37 l0 (rd l2 x11_1)).f1) ((rd_T37 l0 (rd l2 x11_1)).f2) ((rd_T37 l0 (rd l2 x11_1)).f3) ((rd_T37 l0 (rd l2 x11_1)).f4)) else (none)) else (none))) = some (r1, r2, r3, r4, r5) := H
   have A16 := za A160
   clear A160
   by_cases c17 : (wrap64 (x10_1 + t205)) > ((rd_T37 l0 (rd l2 x11_1)).f3)
   ·rw [if_pos c17] at H
    have c17b0 : decide (((rd_T37 l0 (rd l2 x11_1)).f3) < (wrap64 (x10_1 + t205))) = true := decide_eq_true c17
    clear c17
    simp only [Option.some.injEq, Prod.mk.injEq] at H
    obtain ⟨rfl, rfl, rfl, rfl, rfl⟩ := H
    have p202 : 0 ≤ (x11_1 : Int) := zO
    have q202 : x11_1 < (l2.length : Int) := zO
    obtain ⟨ad202, e202, hx202_0⟩ := zas HR2.out x11_1 p202 q202
    cases e202
    replace hx202_0 := (HB.out.cell (zo w _ hx202_0)).trans hx202_0
    replace p202 := eq_true p202
    replace q202 := eq_true q202
    have p203 : 0 ≤ ((rd l2 x11_1) : Int) := zO
    have q203 : (rd l2 x11_1) < (l0.length : Int) := zO
    obtain ⟨ad203, e203, hx203_0, hx203_1, hx203_2, hx203_3, hx203_4⟩ := at_T37 HR0.out (rd l2 x11_1) p203 q203
    cases e203
    replace hx203_0 := (HB.out.cell (zo w _ hx203_0)).trans hx203_0
    replace hx203_1 := (HB.out.cell (zo w _ hx203_1)).trans hx203_1
    replace hx203_2 := (HB.out.cell (zo w _ hx203_2)).trans hx203_2
    replace hx203_3 := (HB.out.cell (zo w _ hx203_3)).trans hx203_3
    replace hx203_4 := (HB.out.cell (zo w _ hx203_4)).trans hx203_4
    replace p203 := eq_true p203
    replace q203 := eq_true q203
    go_wp2_with (first | ((with_reducible refine gate_dst (N := 12) rfl ?_); refine box_event ?hg (N := 12) ?hd (cs := #[.int .i64 0, .int .i64 0, .int .i64 0, .int .i64 0, .int .i64 0]) (t := 37) ?hr ?_; (case hd => rfl); (case hg => rfl); (case hr => exact zH99); intro gb204 hg w18 hbox hb; have n_ := zA_ (za (zt zK192 hb)) (zA_ (za (zt zK193 hb)) (zA_ (za (zr (g := gb199) (o := .cells #[.slice none 0 0, .slice none 0 0, .int .i64 x200002_1, .int .i64 x200003_1] 28 (0, 0)) zK179 hb)) (zA_ (za (zr (g := gb200) (o := .cells #[u201000, u201001, .int .i64 x201002_1, .int .i64 0] 28 (0, 0)) zK180 hb)) (zA_ (za (zr (g := gb201) (o := .cells #[.int .i64 x202000_1, .int .i64 x202001_1, .int .i64 x202002_1, .int .i64 x202003_1, .int .i64 x202004_1] 37 (0, 0)) zK181 hb)) (zA_ (za (zu zK158 hb)) (zA_ (za (hbox)) (zA_ (za ((by rw [hg]; exact (zq zK158) : w.heap.size ≤ gb204))) (zA_ (za ((by rw [hg]; exact (zq zK158) : w.heap.size ≤ gb204))) (zA_ (za ((by rw [hg]; exact Nat.ne_of_lt (zx (g := gb199) (o := .cells #[.slice none 0 0, .slice none 0 0, .int .i64 x200002_1, .int .i64 x200003_1] 28 (0, 0)) zK179) : gb199 ≠ gb204))) (zA_ (za ((by rw [hg]; exact Nat.ne_of_gt (zx (g := gb199) (o := .cells #[.slice none 0 0, .slice none 0 0, .int .i64 x200002_1, .int .i64 x200003_1] 28 (0, 0)) zK179) : gb204 ≠ gb199))) (zA_ (za ((by rw [hg]; exact Nat.ne_of_lt (zx (g := gb200) (o := .cells #[u201000, u201001, .int .i64 x201002_1, .int .i64 0] 28 (0, 0)) zK180) : gb200 ≠ gb204))) (zA_ (za ((by rw [hg]; exact Nat.ne_of_gt (zx (g := gb200) (o := .cells #[u201000, u201001, .int .i64 x201002_1, .int .i64 0] 28 (0, 0)) zK180) : gb204 ≠ gb200))) (zA_ (za ((by rw [hg]; exact Nat.ne_of_lt (zx (g := gb201) (o := .cells #[.int .i64 x202000_1, .int .i64 x202001_1, .int .i64 x202002_1, .int .i64 x202003_1, .int .i64 x202004_1] 37 (0, 0)) zK181) : gb201 ≠ gb204))) (za ((by rw [hg]; exact Nat.ne_of_gt (zx (g := gb201) (o := .cells #[.int .i64 x202000_1, .int .i64 x202001_1, .int .i64 x202002_1, .int .i64 x202003_1, .int .i64 x202004_1] 37 (0, 0)) zK181) : gb204 ≠ gb201)))))))))))))))); clear HO_201000 HO_201001 BK199 BK200 BK201 HB; obtain ⟨HO_201000, HO_201001, BK199, BK200, BK201, HB, BK204, GW204, GE204, NB199_204, NB204_199, NB200_204, NB204_200, NB201_204, NB204_201⟩ := n_; clear hb hbox hg; have hnb19 := NB204_199.out; have hnc19 := NB199_204.out; have hnb20 := NB204_200.out; have hnc20 := NB200_204.out; have hnb21 := NB204_201.out; have hnc21 := NB201_204.out; have hcz22_0 : w18.cell? ⟨gb204, 0, none⟩ = some (.int .i64 0) := (zg BK204.out 0).trans rfl; have hcz22_1 : w18.cell? ⟨gb204, 1, none⟩ = some (.int .i64 0) := (zg BK204.out 1).trans rfl; have hcz22_2 : w18.cell? ⟨gb204, 2, none⟩ = some (.int .i64 0) := (zg BK204.out 2).trans rfl; have hcz22_3 : w18.cell? ⟨gb204, 3, none⟩ = some (.int .i64 0) := (zg BK204.out 3).trans rfl; have hcz22_4 : w18.cell? ⟨gb204, 4, none⟩ = some (.int .i64 0) := (zg BK204.out 4).trans rfl; have hfz22_0 := zh BK204.out 0; have hfz22_1 := zh BK204.out 1; have hfz22_2 := zh BK204.out 2; have hfz22_3 := zh BK204.out 3; have hfz22_4 := zh BK204.out 4; have hnb23 := NB201_199.out; have hnc23 := NB199_201.out; have hnb24 := NB201_200.out; have hnc24 := NB200_201.out; have hcz25_0 : w18.cell? ⟨gb201, 0, none⟩ = some (.int .i64 x202000_1) := (zg BK201.out 0).trans rfl; have hcz25_1 : w18.cell? ⟨gb201, 1, none⟩ = some (.int .i64 x202001_1) := (zg BK201.out 1).trans rfl; have hcz25_2 : w18.cell? ⟨gb201, 2, none⟩ = some (.int .i64 x202002_1) := (zg BK201.out 2).trans rfl; have hcz25_3 : w18.cell? ⟨gb201, 3, none⟩ = some (.int .i64 x202003_1) := (zg BK201.out 3).trans rfl; have hcz25_4 : w18.cell? ⟨gb201, 4, none⟩ = some (.int .i64 x202004_1) := (zg BK201.out 4).trans rfl; have hfz25_0 := zh BK201.out 0; have hfz25_1 := zh BK201.out 1; have hfz25_2 := zh BK201.out 2; have hfz25_3 := zh BK201.out 3; have hfz25_4 := zh BK201.out 4) | ((with_reducible refine gate_callee (f := 145) rfl ?_); refine goesL_ (some 32) rfl rfl Try.func145 zG101 rfl #[.agg #[.int .i64 x202000_1, .int .i64 x202001_1, .int .i64 x202002_1, .int .i64 x202003_1, .int .i64 x202004_1], .agg #[.int .i64 ((rd_T37 l0 (rd l2 x11_1)).f0), .int .i64 ((rd_T37 l0 (rd l2 x11_1)).f1), .int .i64 ((rd_T37 l0 (rd l2 x11_1)).f2), .int .i64 ((rd_T37 l0 (rd l2 x11_1)).f3), .int .i64 ((rd_T37 l0 (rd l2 x11_1)).f4)]] rfl zG68 ?_; (with_reducible refine (spec_l20Far.calls x202000_1 x202001_1 x202002_1 x202003_1 x202004_1 ((rd_T37 l0 (rd l2 x11_1)).f0) ((rd_T37 l0 (rd l2 x11_1)).f1) ((rd_T37 l0 (rd l2 x11_1)).f2) ((rd_T37 l0 (rd l2 x11_1)).f3) ((rd_T37 l0 (rd l2 x11_1)).f4) t205 _ A16.out).mono ?_); rintro e w26 ⟨rfl, hb⟩; refine ⟨_, rfl, ?_⟩; have n_ := zA_ (za (zt zK118 hb)) (zA_ (za (zt zK119 hb)) (zA_ (za (zr (g := gb199) (o := .cells #[.slice none 0 0, .slice none 0 0, .int .i64 x200002_1, .int .i64 x200003_1] 28 (0, 0)) zK112 hb)) (zA_ (za (zr (g := gb200) (o := .cells #[u201000, u201001, .int .i64 x201002_1, .int .i64 0] 28 (0, 0)) zK113 hb)) (zA_ (za (zr (g := gb201) (o := .cells #[.int .i64 x202000_1, .int .i64 x202001_1, .int .i64 x202002_1, .int .i64 x202003_1, .int .i64 x202004_1] 37 (0, 0)) zK114 hb)) (zA_ (za (zr (g := gb204) (o := .cells #[.int .i64 ((rd_T37 l0 (rd l2 x11_1)).f0), .int .i64 ((rd_T37 l0 (rd l2 x11_1)).f1), .int .i64 ((rd_T37 l0 (rd l2 x11_1)).f2), .int .i64 ((rd_T37 l0 (rd l2 x11_1)).f3), .int .i64 ((rd_T37 l0 (rd l2 x11_1)).f4)] 37 (0, 0)) zK104 hb)) (za (zu zK154 hb))))))); clear HO_201000 HO_201001 BK199 BK200 BK201 BK204 HB; obtain ⟨HO_201000, HO_201001, BK199, BK200, BK201, BK204, HB⟩ := n_; (try clear hb); (try clear hk); have hcz27_0 : w26.cell? ⟨gb204, 0, none⟩ = some (.int .i64 ((rd_T37 l0 (rd l2 x11_1)).f0)) := (zg BK204.out 0).trans rfl; have hcz27_1 : w26.cell? ⟨gb204, 1, none⟩ = some (.int .i64 ((rd_T37 l0 (rd l2 x11_1)).f1)) := (zg BK204.out 1).trans rfl; have hcz27_2 : w26.cell? ⟨gb204, 2, none⟩ = some (.int .i64 ((rd_T37 l0 (rd l2 x11_1)).f2)) := (zg BK204.out 2).trans rfl; have hcz27_3 : w26.cell? ⟨gb204, 3, none⟩ = some (.int .i64 ((rd_T37 l0 (rd l2 x11_1)).f3)) := (zg BK204.out 3).trans rfl; have hcz27_4 : w26.cell? ⟨gb204, 4, none⟩ = some (.int .i64 ((rd_T37 l0 (rd l2 x11_1)).f4)) := (zg BK204.out 4).trans rfl; have hfz27_0 := zh BK204.out 0; have hfz27_1 := zh BK204.out 1; have hfz27_2 := zh BK204.out 2; have hfz27_3 := zh BK204.out 3; have hfz27_4 := zh BK204.out 4; have hnb28 := NB199_200.out; have hnc28 := NB200_199.out; have hcz29_0 : w26.cell? ⟨gb199, 0, none⟩ = some (.slice none 0 0) := (zg BK199.out 0).trans rfl; have hcz29_1 : w26.cell? ⟨gb199, 1, none⟩ = some (.slice none 0 0) := (zg BK199.out 1).trans rfl; have hcz29_2 : w26.cell? ⟨gb199, 2, none⟩ = some (.int .i64 x200002_1) := (zg BK199.out 2).trans rfl; have hcz29_3 : w26.cell? ⟨gb199, 3, none⟩ = some (.int .i64 x200003_1) := (zg BK199.out 3).trans rfl; have hfz29_0 := zh BK199.out 0; have hfz29_1 := zh BK199.out 1; have hfz29_2 := zh BK199.out 2; have hfz29_3 := zh BK199.out 3))
    refine bodyPost_ret (results_ct rfl _ _ gb199 28 #[.slice none 0 0, .slice none 0 0, .int .i64 0, .int .i64 0] (0, 0) _ rfl (by (with_reducible repeat (first | refine zc ?_ _ | refine zd ?_ | refine zb ?_ _)); refine zw (cs := #[.slice none 0 0, .slice none 0 0, .int .i64 0, .int .i64 x200003_1]) ?_ 3 _ rfl; (with_reducible repeat (first | refine zc ?_ _ | refine zd ?_ | refine zb ?_ _)); refine zw (cs := #[.slice none 0 0, .slice none 0 0, .int .i64 x200002_1, .int .i64 x200003_1]) ?_ 2 _ rfl; (with_reducible repeat (first | refine zc ?_ _ | refine zd ?_ | refine zb ?_ _)); refine zw (cs := #[.slice none 0 0, .slice none 0 0, .int .i64 x200002_1, .int .i64 x200003_1]) ?_ 1 _ rfl; (with_reducible repeat (first | refine zc ?_ _ | refine zd ?_ | refine zb ?_ _)); refine zw (cs := #[.slice none 0 0, .slice none 0 0, .int .i64 x200002_1, .int .i64 x200003_1]) ?_ 0 _ rfl; (with_reducible repeat (first | refine zc ?_ _ | refine zd ?_ | refine zb ?_ _)); exact BK199.out) Try.underlying28 rfl zG101) rfl ?_
    exact ⟨_, _, zH86, zH67, zH67, zH33⟩
   rw [if_neg c17] at H
   have c17b0 : decide (((rd_T37 l0 (rd l2 x11_1)).f3) < (wrap64 (x10_1 + t205))) = false := decide_eq_false c17
   clear c17
   by_cases c30 : x201000_1.length < 17592186044416
   rotate_left
   ·rw [if_neg c30] at H
    exact absurd H (by simp)
   rw [if_pos c30] at H
   have LMc30 := za c30
   clear c30
   obtain ⟨y207, hy207⟩ : ∃ y_ : List Int, y_ = (x201000_1 ++ [rd l2 x11_1]) := ⟨_, rfl⟩
   replace H : (if x201001_1.length < 17592186044416 then (spec_l20Route.l0 k1 l0 l2 (wrap64 ((mx (wrap64 (x10_1 + t205)) ((rd_T37 l0 (rd l2 x11_1)).f2)) + ((rd_T37 l0 (rd l2 x11_1)).f4))) (wrap64 (x11_1 + 1)) y207 (x201001_1 ++ [wrap64 (x10_1 + t205)]) (wrap64 (x201002_1 + (mx 0 (wrap64 (((rd_T37 l0 (rd l2 x11_1)).f2) - (wrap64 (x10_1 + t205))))))) 0 ((rd_T37 l0 (rd l2 x11_1)).f0) ((rd_T37 l0 (rd l2 x11_1)).f1) ((rd_T37 l0 (rd l2 x11_1)).f2) ((rd_T37 l0 (rd l2 x11_1)).f3) ((rd_T37 l0 (rd l2 x11_1)).f4)) else (none)) = some (r1, r2, r3, r4, r5) := by first | (rw [hy207]; with_reducible exact H) | (have H2_ := (Option.bind_some _ _).symm.trans H; rw [hy207]; with_reducible exact H2_) | (have H2_ := (Option.bind_some _ _).symm.trans H; with_reducible exact H2_) | with_reducible exact H | (rw [hy207]; exact H) | exact H
   have Ny207 := za hy207
   clear hy207
   by_cases c31 : x201001_1.length < 17592186044416
   rotate_left
   ·rw [if_neg c31] at H
    exact absurd H (by simp)
   rw [if_pos c31] at H
   have LMc31 := za c31
   clear c31
   obtain ⟨y210, hy210⟩ : ∃ y_ : List Int, y_ = (x201001_1 ++ [wrap64 (x10_1 + t205)]) := ⟨_, rfl⟩
   replace H : (spec_l20Route.l0 k1 l0 l2 (wrap64 ((mx (wrap64 (x10_1 + t205)) ((rd_T37 l0 (rd l2 x11_1)).f2)) + ((rd_T37 l0 (rd l2 x11_1)).f4))) (wrap64 (x11_1 + 1)) y207 y210 (wrap64 (x201002_1 + (mx 0 (wrap64 (((rd_T37 l0 (rd l2 x11_1)).f2) - (wrap64 (x10_1 + t205))))))) 0 ((rd_T37 l0 (rd l2 x11_1)).f0) ((rd_T37 l0 (rd l2 x11_1)).f1) ((rd_T37 l0 (rd l2 x11_1)).f2) ((rd_T37 l0 (rd l2 x11_1)).f3) ((rd_T37 l0 (rd l2 x11_1)).f4)) = some (r1, r2, r3, r4, r5) := by first | (rw [hy210]; with_reducible exact H) | (have H2_ := (Option.bind_some _ _).symm.trans H; rw [hy210]; with_reducible exact H2_) | (have H2_ := (Option.bind_some _ _).symm.trans H; with_reducible exact H2_) | with_reducible exact H | (rw [hy210]; exact H) | exact H
   have Ny210 := za hy210
   clear hy210
   obtain ⟨ji32, hji32⟩ : ∃ j_ : Int, (mx 0 (wrap64 (((rd_T37 l0 (rd l2 x11_1)).f2) - (wrap64 (x10_1 + t205))))) = j_ := ⟨_, rfl⟩
   replace H : (spec_l20Route.l0 k1 l0 l2 (wrap64 ((mx (wrap64 (x10_1 + t205)) ((rd_T37 l0 (rd l2 x11_1)).f2)) + ((rd_T37 l0 (rd l2 x11_1)).f4))) (wrap64 (x11_1 + 1)) y207 y210 (wrap64 (x201002_1 + (ji32))) 0 ((rd_T37 l0 (rd l2 x11_1)).f0) ((rd_T37 l0 (rd l2 x11_1)).f1) ((rd_T37 l0 (rd l2 x11_1)).f2) ((rd_T37 l0 (rd l2 x11_1)).f3) ((rd_T37 l0 (rd l2 x11_1)).f4)) = some (r1, r2, r3, r4, r5) := by first | (rw [hji32] at H; exact H) | (simp only [hji32] at H ⊢; exact H)
   (try rw [hji32] at A16)
   have hji32_ : (if 0 < (wrap64 (((rd_T37 l0 (rd l2 x11_1)).f2) - (wrap64 (x10_1 + t205)))) then (wrap64 (((rd_T37 l0 (rd l2 x11_1)).f2) - (wrap64 (x10_1 + t205)))) else 0) = ji32 := hji32
   obtain ⟨ji33, hji33⟩ : ∃ j_ : Int, (mx (wrap64 (x10_1 + t205)) ((rd_T37 l0 (rd l2 x11_1)).f2)) = j_ := ⟨_, rfl⟩
   replace H : (spec_l20Route.l0 k1 l0 l2 (wrap64 ((ji33) + ((rd_T37 l0 (rd l2 x11_1)).f4))) (wrap64 (x11_1 + 1)) y207 y210 (wrap64 (x201002_1 + (ji32))) 0 ((rd_T37 l0 (rd l2 x11_1)).f0) ((rd_T37 l0 (rd l2 x11_1)).f1) ((rd_T37 l0 (rd l2 x11_1)).f2) ((rd_T37 l0 (rd l2 x11_1)).f3) ((rd_T37 l0 (rd l2 x11_1)).f4)) = some (r1, r2, r3, r4, r5) := by first | (rw [hji33] at H; exact H) | (simp only [hji33] at H ⊢; exact H)
   (try rw [hji33] at A16)
   have hji33_ : (if (wrap64 (x10_1 + t205)) < ((rd_T37 l0 (rd l2 x11_1)).f2) then ((rd_T37 l0 (rd l2 x11_1)).f2) else (wrap64 (x10_1 + t205))) = ji33 := hji33
   have H' := za H
   clear H
   have p202 : 0 ≤ (x11_1 : Int) := zO
   have q202 : x11_1 < (l2.length : Int) := zO
   obtain ⟨ad202, e202, hx202_0⟩ := zas HR2.out x11_1 p202 q202
   cases e202
   replace hx202_0 := (HB.out.cell (zo w _ hx202_0)).trans hx202_0
   replace p202 := eq_true p202
   replace q202 := eq_true q202
   have p203 : 0 ≤ ((rd l2 x11_1) : Int) := zO
   have q203 : (rd l2 x11_1) < (l0.length : Int) := zO
   obtain ⟨ad203, e203, hx203_0, hx203_1, hx203_2, hx203_3, hx203_4⟩ := at_T37 HR0.out (rd l2 x11_1) p203 q203
   cases e203
   replace hx203_0 := (HB.out.cell (zo w _ hx203_0)).trans hx203_0
   replace hx203_1 := (HB.out.cell (zo w _ hx203_1)).trans hx203_1
   replace hx203_2 := (HB.out.cell (zo w _ hx203_2)).trans hx203_2
   replace hx203_3 := (HB.out.cell (zo w _ hx203_3)).trans hx203_3
   replace hx203_4 := (HB.out.cell (zo w _ hx203_4)).trans hx203_4
   replace p203 := eq_true p203
   replace q203 := eq_true q203
   try go_wp2_with (first | ((with_reducible refine gate_dst (N := 12) rfl ?_); refine box_event ?hg (N := 12) ?hd (cs := #[.int .i64 0, .int .i64 0, .int .i64 0, .int .i64 0, .int .i64 0]) (t := 37) ?hr ?_; (case hd => rfl); (case hg => rfl); (case hr => exact zH99); intro gb204 hg w34 hbox hb; have n_ := zA_ (za (zt zK192 hb)) (zA_ (za (zt zK193 hb)) (zA_ (za (zr (g := gb199) (o := .cells #[.slice none 0 0, .slice none 0 0, .int .i64 x200002_1, .int .i64 x200003_1] 28 (0, 0)) zK179 hb)) (zA_ (za (zr (g := gb200) (o := .cells #[u201000, u201001, .int .i64 x201002_1, .int .i64 0] 28 (0, 0)) zK180 hb)) (zA_ (za (zr (g := gb201) (o := .cells #[.int .i64 x202000_1, .int .i64 x202001_1, .int .i64 x202002_1, .int .i64 x202003_1, .int .i64 x202004_1] 37 (0, 0)) zK181 hb)) (zA_ (za (zu zK158 hb)) (zA_ (za (hbox)) (zA_ (za ((by rw [hg]; exact (zq zK158) : w.heap.size ≤ gb204))) (zA_ (za ((by rw [hg]; exact (zq zK158) : w.heap.size ≤ gb204))) (zA_ (za ((by rw [hg]; exact Nat.ne_of_lt (zx (g := gb199) (o := .cells #[.slice none 0 0, .slice none 0 0, .int .i64 x200002_1, .int .i64 x200003_1] 28 (0, 0)) zK179) : gb199 ≠ gb204))) (zA_ (za ((by rw [hg]; exact Nat.ne_of_gt (zx (g := gb199) (o := .cells #[.slice none 0 0, .slice none 0 0, .int .i64 x200002_1, .int .i64 x200003_1] 28 (0, 0)) zK179) : gb204 ≠ gb199))) (zA_ (za ((by rw [hg]; exact Nat.ne_of_lt (zx (g := gb200) (o := .cells #[u201000, u201001, .int .i64 x201002_1, .int .i64 0] 28 (0, 0)) zK180) : gb200 ≠ gb204))) (zA_ (za ((by rw [hg]; exact Nat.ne_of_gt (zx (g := gb200) (o := .cells #[u201000, u201001, .int .i64 x201002_1, .int .i64 0] 28 (0, 0)) zK180) : gb204 ≠ gb200))) (zA_ (za ((by rw [hg]; exact Nat.ne_of_lt (zx (g := gb201) (o := .cells #[.int .i64 x202000_1, .int .i64 x202001_1, .int .i64 x202002_1, .int .i64 x202003_1, .int .i64 x202004_1] 37 (0, 0)) zK181) : gb201 ≠ gb204))) (za ((by rw [hg]; exact Nat.ne_of_gt (zx (g := gb201) (o := .cells #[.int .i64 x202000_1, .int .i64 x202001_1, .int .i64 x202002_1, .int .i64 x202003_1, .int .i64 x202004_1] 37 (0, 0)) zK181) : gb204 ≠ gb201)))))))))))))))); clear HO_201000 HO_201001 BK199 BK200 BK201 HB; obtain ⟨HO_201000, HO_201001, BK199, BK200, BK201, HB, BK204, GW204, GE204, NB199_204, NB204_199, NB200_204, NB204_200, NB201_204, NB204_201⟩ := n_; clear hb hbox hg; have hnb35 := NB204_199.out; have hnc35 := NB199_204.out; have hnb36 := NB204_200.out; have hnc36 := NB200_204.out; have hnb37 := NB204_201.out; have hnc37 := NB201_204.out; have hcz38_0 : w34.cell? ⟨gb204, 0, none⟩ = some (.int .i64 0) := (zg BK204.out 0).trans rfl; have hcz38_1 : w34.cell? ⟨gb204, 1, none⟩ = some (.int .i64 0) := (zg BK204.out 1).trans rfl; have hcz38_2 : w34.cell? ⟨gb204, 2, none⟩ = some (.int .i64 0) := (zg BK204.out 2).trans rfl; have hcz38_3 : w34.cell? ⟨gb204, 3, none⟩ = some (.int .i64 0) := (zg BK204.out 3).trans rfl; have hcz38_4 : w34.cell? ⟨gb204, 4, none⟩ = some (.int .i64 0) := (zg BK204.out 4).trans rfl; have hfz38_0 := zh BK204.out 0; have hfz38_1 := zh BK204.out 1; have hfz38_2 := zh BK204.out 2; have hfz38_3 := zh BK204.out 3; have hfz38_4 := zh BK204.out 4; have hnb39 := NB201_199.out; have hnc39 := NB199_201.out; have hnb40 := NB201_200.out; have hnc40 := NB200_201.out; have hcz41_0 : w34.cell? ⟨gb201, 0, none⟩ = some (.int .i64 x202000_1) := (zg BK201.out 0).trans rfl; have hcz41_1 : w34.cell? ⟨gb201, 1, none⟩ = some (.int .i64 x202001_1) := (zg BK201.out 1).trans rfl; have hcz41_2 : w34.cell? ⟨gb201, 2, none⟩ = some (.int .i64 x202002_1) := (zg BK201.out 2).trans rfl; have hcz41_3 : w34.cell? ⟨gb201, 3, none⟩ = some (.int .i64 x202003_1) := (zg BK201.out 3).trans rfl; have hcz41_4 : w34.cell? ⟨gb201, 4, none⟩ = some (.int .i64 x202004_1) := (zg BK201.out 4).trans rfl; have hfz41_0 := zh BK201.out 0; have hfz41_1 := zh BK201.out 1; have hfz41_2 := zh BK201.out 2; have hfz41_3 := zh BK201.out 3; have hfz41_4 := zh BK201.out 4) | ((with_reducible refine gate_callee (f := 145) rfl ?_); refine goesL_ (some 32) rfl rfl Try.func145 zG101 rfl #[.agg #[.int .i64 x202000_1, .int .i64 x202001_1, .int .i64 x202002_1, .int .i64 x202003_1, .int .i64 x202004_1], .agg #[.int .i64 ((rd_T37 l0 (rd l2 x11_1)).f0), .int .i64 ((rd_T37 l0 (rd l2 x11_1)).f1), .int .i64 ((rd_T37 l0 (rd l2 x11_1)).f2), .int .i64 ((rd_T37 l0 (rd l2 x11_1)).f3), .int .i64 ((rd_T37 l0 (rd l2 x11_1)).f4)]] rfl zG68 ?_; (with_reducible refine (spec_l20Far.calls x202000_1 x202001_1 x202002_1 x202003_1 x202004_1 ((rd_T37 l0 (rd l2 x11_1)).f0) ((rd_T37 l0 (rd l2 x11_1)).f1) ((rd_T37 l0 (rd l2 x11_1)).f2) ((rd_T37 l0 (rd l2 x11_1)).f3) ((rd_T37 l0 (rd l2 x11_1)).f4) t205 _ A16.out).mono ?_); rintro e w42 ⟨rfl, hb⟩; refine ⟨_, rfl, ?_⟩; have n_ := zA_ (za (zt zK118 hb)) (zA_ (za (zt zK119 hb)) (zA_ (za (zr (g := gb199) (o := .cells #[.slice none 0 0, .slice none 0 0, .int .i64 x200002_1, .int .i64 x200003_1] 28 (0, 0)) zK112 hb)) (zA_ (za (zr (g := gb200) (o := .cells #[u201000, u201001, .int .i64 x201002_1, .int .i64 0] 28 (0, 0)) zK113 hb)) (zA_ (za (zr (g := gb201) (o := .cells #[.int .i64 x202000_1, .int .i64 x202001_1, .int .i64 x202002_1, .int .i64 x202003_1, .int .i64 x202004_1] 37 (0, 0)) zK114 hb)) (zA_ (za (zr (g := gb204) (o := .cells #[.int .i64 ((rd_T37 l0 (rd l2 x11_1)).f0), .int .i64 ((rd_T37 l0 (rd l2 x11_1)).f1), .int .i64 ((rd_T37 l0 (rd l2 x11_1)).f2), .int .i64 ((rd_T37 l0 (rd l2 x11_1)).f3), .int .i64 ((rd_T37 l0 (rd l2 x11_1)).f4)] 37 (0, 0)) zK104 hb)) (za (zu zK154 hb))))))); clear HO_201000 HO_201001 BK199 BK200 BK201 BK204 HB; obtain ⟨HO_201000, HO_201001, BK199, BK200, BK201, BK204, HB⟩ := n_; (try clear hb); (try clear hk); have hcz43_0 : w42.cell? ⟨gb204, 0, none⟩ = some (.int .i64 ((rd_T37 l0 (rd l2 x11_1)).f0)) := (zg BK204.out 0).trans rfl; have hcz43_1 : w42.cell? ⟨gb204, 1, none⟩ = some (.int .i64 ((rd_T37 l0 (rd l2 x11_1)).f1)) := (zg BK204.out 1).trans rfl; have hcz43_2 : w42.cell? ⟨gb204, 2, none⟩ = some (.int .i64 ((rd_T37 l0 (rd l2 x11_1)).f2)) := (zg BK204.out 2).trans rfl; have hcz43_3 : w42.cell? ⟨gb204, 3, none⟩ = some (.int .i64 ((rd_T37 l0 (rd l2 x11_1)).f3)) := (zg BK204.out 3).trans rfl; have hcz43_4 : w42.cell? ⟨gb204, 4, none⟩ = some (.int .i64 ((rd_T37 l0 (rd l2 x11_1)).f4)) := (zg BK204.out 4).trans rfl; have hfz43_0 := zh BK204.out 0; have hfz43_1 := zh BK204.out 1; have hfz43_2 := zh BK204.out 2; have hfz43_3 := zh BK204.out 3; have hfz43_4 := zh BK204.out 4))
   have n0_ := za (zm HO_201000.out)
   have n1_ := za (zm HO_201001.out)
   have n2_ := za (zd BK199.out)
   have n3_ := za (zd BK200.out)
   have n4_ := za (zd BK201.out)
   have n5_ := za (zd BK204.out)
   have n6_ := za (zi HB.out)
   clear HO_201000
   clear HO_201001
   clear BK199
   clear BK200
   clear BK201
   clear BK204
   clear HB
   have HO_201000 := n0_
   have HO_201001 := n1_
   have BK199 := n2_
   have BK200 := n3_
   have BK201 := n4_
   have BK204 := n5_
   have HB := n6_
   clear n0_ n1_ n2_ n3_ n4_ n5_ n6_
   have p206 : 0 ≤ (x11_1 : Int) := zO
   have q206 : x11_1 < (l2.length : Int) := zO
   obtain ⟨ad206, e206, hx206_0⟩ := zas HR2.out x11_1 p206 q206
   have hw206_0 := hx206_0
   obtain rfl : ad202 = ad206 := (by injection e206)
   replace hx206_0 := (HB.out.cell (zo w _ hx206_0)).trans hx206_0
   replace p206 := eq_true p206
   replace q206 := eq_true q206
   refine start_ (n := 10) (S := fun w' => w'.cell? ⟨gb200, 0, none⟩ = some (u201000) ∧ w'.cell? ⟨gb200, 1, none⟩ = some (u201001) ∧ w'.cell? ⟨gb200, 2, none⟩ = some (.int .i64 x201002_1) ∧ w'.cell? ⟨gb200, 3, none⟩ = some (.int .i64 0) ∧ w'.cell? (ad202.add (x11_1).toNat) = some (.int .i64 (rd l2 x11_1))) (ds := [9]) #[false, false, false, false, false, false, false, false, false, false] zG101 rfl rfl ⟨(zg BK200.out 0).trans rfl, (zg BK200.out 1).trans rfl, (zg BK200.out 2).trans rfl, (zg BK200.out 3).trans rfl, ((HB.out.cell (zo w _ hw206_0)).trans hw206_0)⟩ (fun hHeld => ?_); refine with_tabW spec_l20Route.tab11 spec_l20Route.bits11 (fun HT_ HW_ => ?_)
   generalize w42.drew = w44 at HO_201000 HO_201001 BK199 BK200 BK201 BK204 HB hx206_0 hHeld ⊢
   refine pure_ (i := 0) (N := some 39) (v := ?_) (a' := ?_) #[true, false, false, false, false, false, false, false, false, false] rfl rfl (any_of HT_.out zG101) (fun _ _ _ h => h) (Or.inl ⟨by rfl, ?_⟩) ?_ ?_
   rotate_left
   ·intro w'
    go_simp
    with_reducible rfl
   rotate_left
   ·simp only [Act.put, List.setIfInBounds_toArray, List.set_cons_zero, List.set_cons_succ, i64_w, i32_w]
    rfl
   refine pure_ (i := 2) (N := some 41) (v := ?_) (a' := ?_) #[true, false, true, false, false, false, false, false, false, false] rfl rfl (any_of HT_.out zG101) (fun _ _ _ h => h) (Or.inl ⟨by rfl, ?_⟩) ?_ ?_
   rotate_left
   ·intro w'
    go_simp
    with_reducible rfl
   rotate_left
   ·simp only [Act.put, List.setIfInBounds_toArray, List.set_cons_zero, List.set_cons_succ, i64_w, i32_w]
    rfl
   refine pure_ (i := 3) (N := some 42) (v := ?_) (a' := ?_) #[true, false, true, true, false, false, false, false, false, false] rfl rfl (any_of HT_.out zG101) (fun _ _ _ h => h) (Or.inl ⟨by rfl, ?_⟩) ?_ ?_
   rotate_left
   ·intro w'
    go_simp
    with_reducible rfl
   rotate_left
   ·simp only [Act.put, List.setIfInBounds_toArray, List.set_cons_zero, List.set_cons_succ, i64_w, i32_w]
    rfl
   refine pure_ (i := 4) (N := some 43) (v := ?_) (a' := ?_) #[true, false, true, true, true, false, false, false, false, false] rfl rfl (any_of HT_.out zG101) (fun _ _ _ h => h) (Or.inl ⟨by rfl, ?_⟩) ?_ ?_
   rotate_left
   ·intro w'
    go_simp
    with_reducible rfl
   rotate_left
   ·simp only [Act.put, List.setIfInBounds_toArray, List.set_cons_zero, List.set_cons_succ, i64_w, i32_w]
    rfl
   refine take_ (i := 1) (N := some 40) (v := ?_) (a' := ?_) #[true, true, true, true, true, false, false, false, false, false] rfl rfl (take_ofW HT_.out HW_.out zG101) (fun _ _ _ h => h) (Or.inl ⟨by rfl, ?_⟩) hHeld ?_ ?_
   rotate_left
   ·rintro w' ⟨s0, s1, s2, s3, s4⟩
    go_simp
    with_reducible rfl
   rotate_left
   ·simp only [Act.put, List.setIfInBounds_toArray, List.set_cons_zero, List.set_cons_succ, i64_w, i32_w]
    rfl
   refine take_ (i := 5) (N := some 44) (v := ?_) (a' := ?_) #[true, true, true, true, true, true, false, false, false, false] rfl rfl (take_ofW HT_.out HW_.out zG101) (fun _ _ _ h => h) (Or.inl ⟨by rfl, ?_⟩) hHeld ?_ ?_
   rotate_left
   ·rintro w' ⟨s0, s1, s2, s3, s4⟩
    go_simp
    with_reducible rfl
   rotate_left
   ·simp only [Act.put, List.setIfInBounds_toArray, List.set_cons_zero, List.set_cons_succ, i64_w, i32_w]
    rfl
   refine one_ (i := 6) (N := some 45) #[true, true, true, true, true, true, true, false, false, false] rfl rfl (one_of HT_.out zG101) zG102 (fun K hK => ?_)
   refine value_ (w1 := ?_) (v := ?_) (by rfl) rfl ?_ ?_
   rotate_left 2
   ·go_simp
    constructor
    ·rfl
    ·rfl
   refine hK.out _ _ ⟨(zg (zb BK200.out _) 0).trans rfl, (zg (zb BK200.out _) 1).trans rfl, (zg (zb BK200.out _) 2).trans rfl, (zg (zb BK200.out _) 3).trans rfl, (World.cell?_alloc_lt _ _ _ (zo _ _ (((HB.out.cell (zo w _ hw206_0)).trans hw206_0)))).trans (((HB.out.cell (zo w _ hw206_0)).trans hw206_0))⟩ (fun hHeld => ?_)
   clear hK K
   refine norm_ (a' := ?_) ?_ ?_
   rotate_left
   ·show Act.put _ (some 45) _ = _
    simp only [Act.put, List.setIfInBounds_toArray, List.set_cons_zero, List.set_cons_succ, i64_w, i32_w]
    rfl
   refine one_ (i := 7) (N := some 46) #[true, true, true, true, true, true, true, true, false, false] rfl rfl (one_of HT_.out zG101) zG102 (fun K hK => ?_)
   refine Kd.R_append_step (Kd.int .i64) (w0 := w) w.heap.size (by rfl) (.tmp 40) (.tmp 45) 24 3 (.int .i64 0) 8 rfl Try.underlying24 info3 rfl zG102 (by omega) u201000 x201000_1 (rd l2 x11_1) [.int .i64 (rd l2 x11_1)] (fun k_ => some k_ ≠ (u201001 : Value).ownBlock) (fun _ => False) rfl rfl ?aP (fun _ hk => hk.elim) ?aF ?aO ?aB ?aS ?aL ?_
   (case aP => exact rfl)
   (case aB => exact zH31)
   (case aF => exact (fun k_ hk => Kd.fresh' (zaa zK193) k_ hk))
   (case aO => exact zK192)
   (case aS => exact zH30)
   (case aL => have := LMc30.out; omega)
   intro v208 w45 ho hb hg hat
   rw [← Ny207.out] at ho
   have n0_ := za (zar (ok := (fun _ => True)) (by (with_reducible repeat (first | apply zk | apply zl | apply zm)); exact zp HO_201001.out (fun _ hk => ⟨trivial, hk⟩)) hg hat)
   have n1_ := za (zap (g := gb199) (o := .cells #[.slice none 0 0, .slice none 0 0, .int .i64 x200002_1, .int .i64 x200003_1] 28 (0, 0)) zK179 hg (zaj HO_201000.out BK199.out zG102))
   have n2_ := za (zap (g := gb200) (o := .cells #[u201000, u201001, .int .i64 x201002_1, .int .i64 0] 28 (0, 0)) zK180 hg (zaj HO_201000.out BK200.out zG102))
   have n3_ := za (zap (g := gb201) (o := .cells #[.int .i64 x202000_1, .int .i64 x202001_1, .int .i64 x202002_1, .int .i64 x202003_1, .int .i64 x202004_1] 37 (0, 0)) zK181 hg (zaj HO_201000.out BK201.out zG102))
   have n4_ := za (zap (g := gb204) (o := .cells #[.int .i64 ((rd_T37 l0 (rd l2 x11_1)).f0), .int .i64 ((rd_T37 l0 (rd l2 x11_1)).f1), .int .i64 ((rd_T37 l0 (rd l2 x11_1)).f2), .int .i64 ((rd_T37 l0 (rd l2 x11_1)).f3), .int .i64 ((rd_T37 l0 (rd l2 x11_1)).f4)] 37 (0, 0)) (by (with_reducible repeat (first | refine zc ?_ _ | refine zd ?_ | refine zb ?_ _)); exact BK204.out) hg (zaj HO_201000.out BK204.out zG102))
   have n5_ := za (hb)
   have n6_ := za (ho)
   clear HO_201001
   clear BK199
   clear BK200
   clear BK201
   clear BK204
   clear HB
   clear HO_201000
   have HO_201001 := n0_
   have BK199 := n1_
   have BK200 := n2_
   have BK201 := n3_
   have BK204 := n4_
   have HB := n5_
   have HO209 := n6_
   clear n0_ n1_ n2_ n3_ n4_ n5_ n6_
   clear ho hb hg hat
   obtain ⟨Ao46, co46, eo46⟩ := zaf HO209.out
   (first | subst eo46 | (injection eo46 with f1_ f2_ f3_; have f4_ := f1_.symm; have f5_ := f3_.symm; clear f1_ f2_ f3_; subst f4_; subst f5_))
   refine hK.out _ _ ⟨(zg BK200.out 0).trans rfl, (zg BK200.out 1).trans rfl, (zg BK200.out 2).trans rfl, (zg BK200.out 3).trans rfl, ((HB.out.cell (zo w _ hw206_0)).trans hw206_0)⟩ (fun hHeld => ?_)
   clear hK K
   refine norm_ (a' := ?_) ?_ ?_
   rotate_left
   ·show Act.put _ (some 46) _ = _
    simp only [Act.put, List.setIfInBounds_toArray, List.set_cons_zero, List.set_cons_succ, i64_w, i32_w]
    rfl
   refine pure_ (i := 8) (N := some 47) (v := ?_) (a' := ?_) #[true, true, true, true, true, true, true, true, true, false] rfl rfl (any_of HT_.out zG101) (fun _ _ _ h => h) (Or.inl ⟨by rfl, ?_⟩) ?_ ?_
   rotate_left
   ·intro w'
    go_simp
    with_reducible rfl
   rotate_left
   ·simp only [Act.put, List.setIfInBounds_toArray, List.set_cons_zero, List.set_cons_succ, i64_w, i32_w]
    rfl
   refine last_ (i := 9) (N := none) #[true, true, true, true, true, true, true, true, true, true] rfl rfl (one_of HT_.out zG101) zG102 (fun K hK => ?_)
   have hs47 : w45.cell? ⟨gb200, 0, none⟩ = some (u201000) := (zg BK200.out 0).trans rfl
   have hfs47 := zh BK200.out 0
   have hns47_0 := NB199_200.out
   have hns47_2 := NB201_200.out
   have hns47_3 := NB204_200.out
   have hms47_0 := NB200_199.out
   have hms47_2 := NB200_201.out
   have hms47_3 := NB200_204.out
   refine skip_ (w1 := ?_) (by rfl) rfl ?_ ?_
   rotate_left
   ·go_simp
    rfl
   refine hK.out _ _ ?_
   clear hK K
   refine done_ (done_of HT_.out zG101) ?_
   have hnb48 := NB200_199.out
   have hnc48 := NB199_200.out
   have hcz49_0 : w45.cell? ⟨gb200, 0, none⟩ = some (u201000) := (zg BK200.out 0).trans rfl
   have hcz49_1 : w45.cell? ⟨gb200, 1, none⟩ = some (u201001) := (zg BK200.out 1).trans rfl
   have hcz49_2 : w45.cell? ⟨gb200, 2, none⟩ = some (.int .i64 x201002_1) := (zg BK200.out 2).trans rfl
   have hcz49_3 : w45.cell? ⟨gb200, 3, none⟩ = some (.int .i64 0) := (zg BK200.out 3).trans rfl
   have hfz49_0 := zh BK200.out 0
   have hfz49_1 := zh BK200.out 1
   have hfz49_2 := zh BK200.out 2
   have hfz49_3 := zh BK200.out 3
   try go_wp2_with (first | ((with_reducible refine gate_builtin (b := .append) (xs := #[.tmp 49, .tmp 51]) rfl ?_); at_builtin; refine Kd.R_append (Kd.int .i64) (w0 := w) w.heap.size rfl (.tmp 49) (.tmp 51) 24 3 (.int .i64 0) 8 rfl Try.underlying24 info3 rfl zG102 (by omega) u201001 x201001_1 (wrap64 (x10_1 + t205)) [.int .i64 (wrap64 (x10_1 + t205))] (fun k_ => some k_ ≠ (.slice Ao46 y207.length co46 : Value).ownBlock) (fun _ => False) rfl (by first | (go_simp; done) | (go_simp; rfl)) ?aP (fun _ hk => hk.elim) ?aF ?aO ?aB ?aS ?aL ?_; (case aP => exact rfl); (case aB => exact zH31); (case aF => exact (fun k_ hk => Kd.fresh' (zaa (by (with_reducible repeat (first | apply zk | apply zl | apply zm)); exact (zp (zn (p := ⟨gb200, 0, none⟩) (zv HO209.out BK200.out zG102) (fun _ hk => hk.2) (.slice Ao46 y207.length co46)) (fun _ h_ => h_.1)))) k_ hk)); (case aO => exact (by (with_reducible repeat (first | apply zk | apply zl | apply zm)); exact zp (zn (p := ⟨gb200, 0, none⟩) (zv HO_201001.out BK200.out zG102) (fun _ hk => hk.2) (.slice Ao46 y207.length co46)) (fun _ hk => hk.1.2))); (case aS => exact zH30); (case aL => have := LMc31.out; omega); intro v211 w50 ho hb hg hat; rw [← Ny210.out] at ho; have n_ := zA_ (za (zap (g := gb199) (o := .cells #[.slice none 0 0, .slice none 0 0, .int .i64 x200002_1, .int .i64 x200003_1] 28 (0, 0)) (by (with_reducible repeat (first | refine zc ?_ _ | refine zd ?_ | refine zb ?_ _)); refine zs ?_ NB199_200.out _; (with_reducible repeat (first | refine zc ?_ _ | refine zd ?_ | refine zb ?_ _)); exact BK199.out) hg (zaj HO_201001.out BK199.out zG102))) (zA_ (za (zap (g := gb200) (o := .cells #[.slice Ao46 y207.length co46, u201001, .int .i64 x201002_1, .int .i64 0] 28 (0, 0)) (by (with_reducible repeat (first | refine zc ?_ _ | refine zd ?_ | refine zb ?_ _)); refine zw (cs := #[u201000, u201001, .int .i64 x201002_1, .int .i64 0]) ?_ 0 _ rfl; (with_reducible repeat (first | refine zc ?_ _ | refine zd ?_ | refine zb ?_ _)); exact BK200.out) hg (zaj HO_201001.out BK200.out zG102))) (zA_ (za (zap (g := gb201) (o := .cells #[.int .i64 x202000_1, .int .i64 x202001_1, .int .i64 x202002_1, .int .i64 x202003_1, .int .i64 x202004_1] 37 (0, 0)) (by (with_reducible repeat (first | refine zc ?_ _ | refine zd ?_ | refine zb ?_ _)); refine zs ?_ NB201_200.out _; (with_reducible repeat (first | refine zc ?_ _ | refine zd ?_ | refine zb ?_ _)); exact BK201.out) hg (zaj HO_201001.out BK201.out zG102))) (zA_ (za (zap (g := gb204) (o := .cells #[.int .i64 ((rd_T37 l0 (rd l2 x11_1)).f0), .int .i64 ((rd_T37 l0 (rd l2 x11_1)).f1), .int .i64 ((rd_T37 l0 (rd l2 x11_1)).f2), .int .i64 ((rd_T37 l0 (rd l2 x11_1)).f3), .int .i64 ((rd_T37 l0 (rd l2 x11_1)).f4)] 37 (0, 0)) (by (with_reducible repeat (first | refine zc ?_ _ | refine zd ?_ | refine zb ?_ _)); refine zs ?_ NB204_200.out _; (with_reducible repeat (first | refine zc ?_ _ | refine zd ?_ | refine zb ?_ _)); exact BK204.out) hg (zaj HO_201001.out BK204.out zG102))) (zA_ (za (zar (ok := (fun _ => True)) (by (with_reducible repeat (first | apply zk | apply zl | apply zm)); exact zp (zn (p := ⟨gb200, 0, none⟩) (zv HO209.out BK200.out zG102) (fun _ hk => hk.2) (.slice Ao46 y207.length co46)) (fun _ hk => ⟨trivial, hk.1⟩)) hg hat)) (zA_ (za (hb)) (za (ho))))))); clear BK199 BK200 BK201 BK204 HO209 HB HO_201001; obtain ⟨BK199, BK200, BK201, BK204, HO209, HB, HO212⟩ := n_; clear ho hb hg hat; obtain ⟨Ao51, co51, eo51⟩ := zaf HO212.out; subst eo51; have hcz52_0 : w50.cell? ⟨gb200, 0, none⟩ = some (.slice Ao46 y207.length co46) := (zg BK200.out 0).trans rfl; have hcz52_1 : w50.cell? ⟨gb200, 1, none⟩ = some (u201001) := (zg BK200.out 1).trans rfl; have hcz52_2 : w50.cell? ⟨gb200, 2, none⟩ = some (.int .i64 x201002_1) := (zg BK200.out 2).trans rfl; have hcz52_3 : w50.cell? ⟨gb200, 3, none⟩ = some (.int .i64 0) := (zg BK200.out 3).trans rfl; have hfz52_0 := zh BK200.out 0; have hfz52_1 := zh BK200.out 1; have hfz52_2 := zh BK200.out 2; have hfz52_3 := zh BK200.out 3; have hcz53_0 : w50.cell? ⟨gb204, 0, none⟩ = some (.int .i64 ((rd_T37 l0 (rd l2 x11_1)).f0)) := (zg BK204.out 0).trans rfl; have hcz53_1 : w50.cell? ⟨gb204, 1, none⟩ = some (.int .i64 ((rd_T37 l0 (rd l2 x11_1)).f1)) := (zg BK204.out 1).trans rfl; have hcz53_2 : w50.cell? ⟨gb204, 2, none⟩ = some (.int .i64 ((rd_T37 l0 (rd l2 x11_1)).f2)) := (zg BK204.out 2).trans rfl; have hcz53_3 : w50.cell? ⟨gb204, 3, none⟩ = some (.int .i64 ((rd_T37 l0 (rd l2 x11_1)).f3)) := (zg BK204.out 3).trans rfl; have hcz53_4 : w50.cell? ⟨gb204, 4, none⟩ = some (.int .i64 ((rd_T37 l0 (rd l2 x11_1)).f4)) := (zg BK204.out 4).trans rfl; have hfz53_0 := zh BK204.out 0; have hfz53_1 := zh BK204.out 1; have hfz53_2 := zh BK204.out 2; have hfz53_3 := zh BK204.out 3; have hfz53_4 := zh BK204.out 4; have hcz54_0 : w50.cell? ⟨gb201, 0, none⟩ = some (.int .i64 x202000_1) := (zg BK201.out 0).trans rfl; have hcz54_1 : w50.cell? ⟨gb201, 1, none⟩ = some (.int .i64 x202001_1) := (zg BK201.out 1).trans rfl; have hcz54_2 : w50.cell? ⟨gb201, 2, none⟩ = some (.int .i64 x202002_1) := (zg BK201.out 2).trans rfl; have hcz54_3 : w50.cell? ⟨gb201, 3, none⟩ = some (.int .i64 x202003_1) := (zg BK201.out 3).trans rfl; have hcz54_4 : w50.cell? ⟨gb201, 4, none⟩ = some (.int .i64 x202004_1) := (zg BK201.out 4).trans rfl; have hfz54_0 := zh BK201.out 0; have hfz54_1 := zh BK201.out 1; have hfz54_2 := zh BK201.out 2; have hfz54_3 := zh BK201.out 3; have hfz54_4 := zh BK201.out 4))
   go_roundg k1
   case measure => have := HK1.out; omega
   case rel => exact ⟨(wrap64 ((ji33) + ((rd_T37 l0 (rd l2 x11_1)).f4))), (wrap64 (x11_1 + 1)), (x200002_1), (x200003_1), (y207), (y210), (wrap64 (x201002_1 + (ji32))), ((rd_T37 l0 (rd l2 x11_1)).f0), ((rd_T37 l0 (rd l2 x11_1)).f1), ((rd_T37 l0 (rd l2 x11_1)).f2), ((rd_T37 l0 (rd l2 x11_1)).f3), ((rd_T37 l0 (rd l2 x11_1)).f4), (.slice Ao46 y207.length co46), (.slice Ao51 y210.length co51), (by first | rfl | (simp; done) | (simp only [← hji33] <;> (first | rfl | simp)) | (simp [*]; done)), zG100, H', ⟨zH102⟩, ⟨by (with_reducible repeat (first | apply zk | apply zl | apply zm)); exact zp (zn (p := ⟨gb201, 4, none⟩) (zn (p := ⟨gb201, 3, none⟩) (zn (p := ⟨gb201, 2, none⟩) (zn (p := ⟨gb201, 1, none⟩) (zn (p := ⟨gb201, 0, none⟩) (zn (p := ⟨gb200, 2, none⟩) (zn (p := ⟨gb200, 1, none⟩) (zv (zv HO209.out BK200.out zG102) BK201.out zG102) (fun _ hk => hk.1.2) (.slice Ao51 y210.length co51)) (fun _ hk => hk.1.2) (.int .i64 (wrap64 (x201002_1 + (ji32))))) (fun _ hk => hk.2) (.int .i64 ((rd_T37 l0 (rd l2 x11_1)).f0))) (fun _ hk => hk.2) (.int .i64 ((rd_T37 l0 (rd l2 x11_1)).f1))) (fun _ hk => hk.2) (.int .i64 ((rd_T37 l0 (rd l2 x11_1)).f2))) (fun _ hk => hk.2) (.int .i64 ((rd_T37 l0 (rd l2 x11_1)).f3))) (fun _ hk => hk.2) (.int .i64 ((rd_T37 l0 (rd l2 x11_1)).f4))) (fun _ hk => hk.1.1.2)⟩, ⟨by (with_reducible repeat (first | apply zk | apply zl | apply zm)); exact zp (zn (p := ⟨gb201, 4, none⟩) (zn (p := ⟨gb201, 3, none⟩) (zn (p := ⟨gb201, 2, none⟩) (zn (p := ⟨gb201, 1, none⟩) (zn (p := ⟨gb201, 0, none⟩) (zn (p := ⟨gb200, 2, none⟩) (zn (p := ⟨gb200, 1, none⟩) (zv (zv HO212.out BK200.out zG102) BK201.out zG102) (fun _ hk => hk.1.2) (.slice Ao51 y210.length co51)) (fun _ hk => hk.1.2) (.int .i64 (wrap64 (x201002_1 + (ji32))))) (fun _ hk => hk.2) (.int .i64 ((rd_T37 l0 (rd l2 x11_1)).f0))) (fun _ hk => hk.2) (.int .i64 ((rd_T37 l0 (rd l2 x11_1)).f1))) (fun _ hk => hk.2) (.int .i64 ((rd_T37 l0 (rd l2 x11_1)).f2))) (fun _ hk => hk.2) (.int .i64 ((rd_T37 l0 (rd l2 x11_1)).f3))) (fun _ hk => hk.2) (.int .i64 ((rd_T37 l0 (rd l2 x11_1)).f4))) (fun _ hk => hk.1.1)⟩, ⟨by (with_reducible repeat (first | refine zc ?_ _ | refine zd ?_ | refine zb ?_ _)); refine zs ?_ NB199_201.out _; (with_reducible repeat (first | refine zc ?_ _ | refine zd ?_ | refine zb ?_ _)); refine zs ?_ NB199_201.out _; (with_reducible repeat (first | refine zc ?_ _ | refine zd ?_ | refine zb ?_ _)); refine zs ?_ NB199_201.out _; (with_reducible repeat (first | refine zc ?_ _ | refine zd ?_ | refine zb ?_ _)); refine zs ?_ NB199_201.out _; (with_reducible repeat (first | refine zc ?_ _ | refine zd ?_ | refine zb ?_ _)); refine zs ?_ NB199_201.out _; (with_reducible repeat (first | refine zc ?_ _ | refine zd ?_ | refine zb ?_ _)); refine zs ?_ NB199_200.out _; (with_reducible repeat (first | refine zc ?_ _ | refine zd ?_ | refine zb ?_ _)); refine zs ?_ NB199_200.out _; (with_reducible repeat (first | refine zc ?_ _ | refine zd ?_ | refine zb ?_ _)); exact BK199.out⟩, ⟨by (with_reducible repeat (first | refine zc ?_ _ | refine zd ?_ | refine zb ?_ _)); refine zs ?_ NB200_201.out _; (with_reducible repeat (first | refine zc ?_ _ | refine zd ?_ | refine zb ?_ _)); refine zs ?_ NB200_201.out _; (with_reducible repeat (first | refine zc ?_ _ | refine zd ?_ | refine zb ?_ _)); refine zs ?_ NB200_201.out _; (with_reducible repeat (first | refine zc ?_ _ | refine zd ?_ | refine zb ?_ _)); refine zs ?_ NB200_201.out _; (with_reducible repeat (first | refine zc ?_ _ | refine zd ?_ | refine zb ?_ _)); refine zs ?_ NB200_201.out _; (with_reducible repeat (first | refine zc ?_ _ | refine zd ?_ | refine zb ?_ _)); refine zw (cs := #[.slice Ao46 y207.length co46, .slice Ao51 y210.length co51, .int .i64 x201002_1, .int .i64 0]) ?_ 2 _ rfl; (with_reducible repeat (first | refine zc ?_ _ | refine zd ?_ | refine zb ?_ _)); refine zw (cs := #[.slice Ao46 y207.length co46, u201001, .int .i64 x201002_1, .int .i64 0]) ?_ 1 _ rfl; (with_reducible repeat (first | refine zc ?_ _ | refine zd ?_ | refine zb ?_ _)); exact BK200.out⟩, ⟨by (with_reducible repeat (first | refine zc ?_ _ | refine zd ?_ | refine zb ?_ _)); refine zw (cs := #[.int .i64 ((rd_T37 l0 (rd l2 x11_1)).f0), .int .i64 ((rd_T37 l0 (rd l2 x11_1)).f1), .int .i64 ((rd_T37 l0 (rd l2 x11_1)).f2), .int .i64 ((rd_T37 l0 (rd l2 x11_1)).f3), .int .i64 x202004_1]) ?_ 4 _ rfl; (with_reducible repeat (first | refine zc ?_ _ | refine zd ?_ | refine zb ?_ _)); refine zw (cs := #[.int .i64 ((rd_T37 l0 (rd l2 x11_1)).f0), .int .i64 ((rd_T37 l0 (rd l2 x11_1)).f1), .int .i64 ((rd_T37 l0 (rd l2 x11_1)).f2), .int .i64 x202003_1, .int .i64 x202004_1]) ?_ 3 _ rfl; (with_reducible repeat (first | refine zc ?_ _ | refine zd ?_ | refine zb ?_ _)); refine zw (cs := #[.int .i64 ((rd_T37 l0 (rd l2 x11_1)).f0), .int .i64 ((rd_T37 l0 (rd l2 x11_1)).f1), .int .i64 x202002_1, .int .i64 x202003_1, .int .i64 x202004_1]) ?_ 2 _ rfl; (with_reducible repeat (first | refine zc ?_ _ | refine zd ?_ | refine zb ?_ _)); refine zw (cs := #[.int .i64 ((rd_T37 l0 (rd l2 x11_1)).f0), .int .i64 x202001_1, .int .i64 x202002_1, .int .i64 x202003_1, .int .i64 x202004_1]) ?_ 1 _ rfl; (with_reducible repeat (first | refine zc ?_ _ | refine zd ?_ | refine zb ?_ _)); refine zw (cs := #[.int .i64 x202000_1, .int .i64 x202001_1, .int .i64 x202002_1, .int .i64 x202003_1, .int .i64 x202004_1]) ?_ 0 _ rfl; (with_reducible repeat (first | refine zc ?_ _ | refine zd ?_ | refine zb ?_ _)); refine zs ?_ NB201_200.out _; (with_reducible repeat (first | refine zc ?_ _ | refine zd ?_ | refine zb ?_ _)); refine zs ?_ NB201_200.out _; (with_reducible repeat (first | refine zc ?_ _ | refine zd ?_ | refine zb ?_ _)); exact BK201.out⟩, ⟨zH33⟩⟩
end Go.Proofs.Ytojncbpeeboooaa.T
