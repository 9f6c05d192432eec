-- squeezed
-- made by pp.py (wip/tools) out of the translation; Lean checks it
import Derived.Test.YtakpcpbhlohmiaaK2a
import Derived.Test.YtakpcpbhlohmiaaK0
import Derived.Test.YtakpcpbhlohmiaaK1
namespace Go.Proofs.Ytakpcpbhlohmiaa.K
open Go.RowKit Go.Proofs.YtakpcpbhlohmiaaW.PrintWords Go.Proofs.YtakpcpbhlohmiaaW.PrintLast Go.Proofs.YtakpcpbhlohmiaaW.PrintMore
attribute [local go_sem] max2_int min2_int max_two min_two max_three min_three max_four min_four   -- for this text's walks alone
set_option linter.unusedVariables false
set_option linter.unusedSimpArgs false

abbrev b2A0 : Array Bool := #[true, true, true, true, true, true, true, true, true, false]
abbrev b2A1 : Array Bool := #[true, true, true, true, true, true, false, true, true, false]
abbrev b2A2 : Array Bool := #[true, true, true, false, true, true, true, true, false, false]
abbrev b2A3 : Array Bool := #[false, true, true, true, true, true, true, false, false, false]
abbrev b2A4 : Array Bool := #[false, false, false, false, false, false, false, false, false, false, false]
abbrev b2A5 : Array Bool := #[true, false, false, false, false, false, false, false, false, false, false]
abbrev b2A6 : Array Bool := #[true, true, false, false, false, false, false, false, false, false, false]
abbrev b2A7 : Array Bool := #[true, true, true, false, false, false, false, false, false, false, false]
abbrev b2A8 : Array Bool := #[true, true, true, false, true, false, false, false, false, false, false]
abbrev b2A9 : Array Bool := #[true, true, true, false, true, true, false, false, false, false, false]
abbrev b2A10 : Array Bool := #[true, true, true, false, true, true, true, false, false, false, false]
abbrev b2A11 : Array Bool := #[true, true, true, false, true, true, true, true, false, false, false]
abbrev b2A12 : Array Bool := #[true, true, true, true, true, true, true, true, false, false, false]
abbrev b2A13 : Array Bool := #[true, true, true, true, true, true, true, true, true, false, false]
abbrev b2A14 : Array Bool := #[true, true, true, true, true, true, true, true, true, true, false]
abbrev b2A15 : Array Bool := #[true, true, true, true, true, true, true, true, true, true, true]
abbrev b2A16 : Array Bool := #[true, true, true, false, true, true, false, true, false, false]
abbrev b2A17 : Array Bool := #[false, true, true, true, true, true, false, false, false, false]
abbrev b2A18 : Array Bool := #[false, true, true, false, true, true, true, false, false, false]
abbrev b2A19 : Array Bool := #[true, true, true, true, true, true, false, true, false, false]
abbrev b2A20 : Array Bool := #[true, true, true, true, true, true, true, true, false, false]
abbrev q2a := @Kd.R_alloc
abbrev q2n := @Kd.R_drewN
abbrev q2d := @Kd.R_drew
abbrev q2N := @blk_drewN
abbrev q2D := @blk_drew
abbrev q2A := @blk_alloc
abbrev q2w := @pw_below_drewN
abbrev q2l := @below_alloc
abbrev q2e := @below_drew1
set_option maxHeartbeats 8000000 in
set_option maxRecDepth 100000 in
theorem impl_SortRun.calls (k : Nat) (A0 : Option Addr) (c0 : Nat) (l0 : List (S32)) (A1 : Option Addr) (c1 : Nat) (l1 : List Int) (r1 : Int) (r2 : Int) (r3 : List Int) (r4 : List Int) (r5 : Int) (w : World) (hr0 : Kd.C k32 w A0 l0.length l0) (hc0 : l0.length ≤ c0) (hr1 : Kd.C (Kd.int .i64) w A1 l1.length l1) (hc1 : l1.length ≤ c1) (h : impl_SortRun.f k l0 l1 = some (r1, r2, r3, r4, r5)) :
  Calls Try.prog 6 #[.slice A0 l0.length c0, .slice A1 l1.length c1] w fun e w' => ∃ v2_ v3_ : Value, e = .returned (.tuple #[.agg #[.int .i64 r1, .int .i64 r2, v2_, v3_], .int .i64 r5]) ∧ Kd.R (Kd.int .i64) 3 w' w.heap.size (fun k_ => some k_ ≠ (v3_ : Value).ownBlock) v2_ r3 ∧ Kd.R (Kd.int .i64) 3 w' w.heap.size (fun k_ => some k_ ≠ (v2_ : Value).ownBlock) v3_ r4 ∧ Below w.heap.size w w' := by
 have hu28 := Try.underlying28
 have hu32 := Try.underlying32
 have HR0 := Aside0.mk hr0
 have HC0 := Aside0.mk hc0
 clear hr0 hc0
 have HR1 := Aside0.mk hr1
 have HC1 := Aside0.mk hc1
 clear hr1 hc1
 have HB := Aside0.mk (Below.refl w.heap.size w)
 have H : ((impl_Lane_21.f l0).bind fun t115 => (if t115 = true then ((impl_isList_int.f l1).bind fun t116 => (impl_SortRun.j0 k l0 l1 (!t116))) else (impl_SortRun.j0 k l0 l1 true))) = some (r1, r2, r3, r4, r5) := h
 clear h
 have HC3 := Aside0.mk H
 clear H
 go_enter Try.func6, Try.ntmps6
 go_upto_region 1 with (first | ((with_reducible refine gate_dst (N := 4) rfl ?_); (try (refine gate_guard (by rfl) ?_; dsimp only)); refine box_event ?hg (N := 4) ?hd (cs := #[.int .i64 0, .int .i64 0, .slice none 0 0, .slice none 0 0]) (t := 28) ?hr ?_; (case hd => rfl); (case hg => rfl); (case hr => first | (go_simp; done) | (go_simp; rfl)); intro gb114 hg w4 hbox hb; have n0_ := Aside0.mk (below_step (by repeat (first | (with_reducible first | exact HB.out | apply q2l | apply q2w | apply q2e) | exact HB.out)) hb); have n1_ := Aside0.mk (hbox); have n2_ := Aside0.mk ((by rw [hg]; exact (below_size (by repeat (first | (with_reducible first | exact HB.out | apply q2l | apply q2w | apply q2e) | exact HB.out))) : w.heap.size ≤ gb114)); have n3_ := Aside0.mk ((by rw [hg]; exact (below_size (by repeat (first | (with_reducible first | exact HB.out | apply q2l | apply q2w | apply q2e) | exact HB.out))) : w.heap.size ≤ gb114)); clear HB; have HB := n0_; have BK114 := n1_; have GW114 := n2_; have GE114 := n3_; clear n0_ n1_ n2_ n3_; clear hb hbox hg))
 (try simp only [Act.put, List.setIfInBounds_toArray, List.set_cons_zero, List.set_cons_succ])
 go_cut [15] (fun v15 wc => ∃ (kq : Nat) (x15_2 : Bool), v15 = .bool x15_2 ∧ Aside0 (impl_SortRun.j0 kq l0 l1 x15_2 = some (r1, r2, r3, r4, r5)) ∧ Aside0 (kq ≤ k) ∧ Aside0 (wc.heap[gb114]? = some (.cells #[.int .i64 0, .int .i64 0, (.slice none 0 0), (.slice none 0 0)] 28 (0, 0))) ∧ Aside0 (Below w.heap.size w wc))
 case first =>
  have H := HC3.out
  clear HC3
  replace H := Option.bind_eq_some_iff.mp H
  obtain ⟨t115, A50, H⟩ := H
  replace H : (if t115 = true then ((impl_isList_int.f l1).bind fun t116 => (impl_SortRun.j0 k l0 l1 (!t116))) else (impl_SortRun.j0 k l0 l1 true)) = some (r1, r2, r3, r4, r5) := H
  have A5 := Aside0.mk A50
  clear A50
  by_cases c6 : t115 = true
  ·subst c6
   have H1 : ((impl_isList_int.f l1).bind fun t116 => (impl_SortRun.j0 k l0 l1 (!t116))) = some (r1, r2, r3, r4, r5) := by rw [if_pos rfl] at H; exact H
   clear H
   have H := H1
   clear H1
   replace H := Option.bind_eq_some_iff.mp H
   obtain ⟨t116, A70, H⟩ := H
   replace H : (impl_SortRun.j0 k l0 l1 (!t116)) = some (r1, r2, r3, r4, r5) := H
   have A7 := Aside0.mk A70
   clear A70
   have H' := Aside0.mk H
   clear H
   go_wp2_with (first | ((with_reducible refine gate_callee (f := 21) rfl ?_); refine goesL_ (some 17) rfl rfl Try.func21 (by kernel_rfl) rfl #[.slice A0 l0.length c0] rfl (by (try simp only [List.map_toArray, List.map_cons, List.map_nil]); first | done | rfl | (simp only [List.length_drop, List.length_take]; rfl)) ?_; (with_reducible refine (impl_Lane_21.calls _ _ l0 true _ ?side1 ?side2 A5.out).mono ?_); (case side1 => repeat (first | exact (Kd.C_below HR0.out HB.out) | (with_reducible refine Kd.C_alloc ?_ _) | (with_reducible refine Kd.C_drewN ?_ _) | (with_reducible refine Kd.C_drew ?_))); (case side2 => exact HC0.out); rintro e w' ⟨rfl, ⟨nd, rfl⟩⟩; refine ⟨_, rfl, ?_⟩) | (go_at_call 22; (with_reducible refine (impl_isList_int.calls _ _ l1 t116 _ ?side1 ?side2 A7.out).mono ?_); (case side1 => repeat (first | exact (Kd.C_below HR1.out (by repeat (first | (with_reducible first | exact HB.out | apply q2l | apply q2w | apply q2e | refine below_set ?_ GE114.out) | exact HB.out))) | (with_reducible refine Kd.C_alloc ?_ _) | (with_reducible refine Kd.C_drewN ?_ _) | (with_reducible refine Kd.C_drew ?_))); (case side2 => exact HC1.out); rintro e w' ⟨rfl, ⟨nd, rfl⟩⟩))
   go_meet
   case rel => exact ⟨_, (!t116), (by first | rfl | (simp; done) | (simp [*]; done)), H', ⟨by first | omega | exact Nat.le_refl _⟩, ⟨by (with_reducible repeat (first | refine q2N ?_ _ | refine q2D ?_ | refine q2A ?_ _)); exact BK114.out⟩, ⟨by repeat (first | (with_reducible first | exact HB.out | apply q2l | apply q2w | apply q2e | refine below_set ?_ GE114.out) | exact HB.out)⟩⟩
  ·replace c6 := Bool.eq_false_iff.mpr c6
   subst c6
   have H1 : (impl_SortRun.j0 k l0 l1 true) = some (r1, r2, r3, r4, r5) := by rw [if_neg (show ¬ (false = true) by decide)] at H; exact H
   clear H
   have H := H1
   clear H1
   have H' := Aside0.mk H
   clear H
   go_wp2_with (first | ((with_reducible refine gate_callee (f := 21) rfl ?_); refine goesL_ (some 17) rfl rfl Try.func21 (by kernel_rfl) rfl #[.slice A0 l0.length c0] rfl (by (try simp only [List.map_toArray, List.map_cons, List.map_nil]); first | done | rfl | (simp only [List.length_drop, List.length_take]; rfl)) ?_; (with_reducible refine (impl_Lane_21.calls _ _ l0 false _ ?side1 ?side2 A5.out).mono ?_); (case side1 => repeat (first | exact (Kd.C_below HR0.out HB.out) | (with_reducible refine Kd.C_alloc ?_ _) | (with_reducible refine Kd.C_drewN ?_ _) | (with_reducible refine Kd.C_drew ?_))); (case side2 => exact HC0.out); rintro e w' ⟨rfl, ⟨nd, rfl⟩⟩; refine ⟨_, rfl, ?_⟩))
   go_meet
   case rel => exact ⟨_, (true), (by first | rfl | (simp; done) | (simp [*]; done)), H', ⟨by first | omega | exact Nat.le_refl _⟩, ⟨by (with_reducible repeat (first | refine q2N ?_ _ | refine q2D ?_ | refine q2A ?_ _)); exact BK114.out⟩, ⟨by repeat (first | (with_reducible first | exact HB.out | apply q2l | apply q2w | apply q2e | refine below_set ?_ GE114.out) | exact HB.out)⟩⟩
 case rest =>
  clear HC3
  try clear c1
  try clear c2
  try clear p2
  try clear c6
  obtain ⟨kq, x15_2, rfl, HA, HJ2, BK114, HB⟩ := hcut
  cases kq with
  | zero => exact absurd HA.out (by simp [impl_SortRun.j0])
  | succ kj2 =>
   have H := HA.out
   clear HA
   simp only [impl_SortRun.j0] at H
   by_cases c8 : x15_2 = true
   ·subst c8
    have H1 : (some (0, 0, ([] : List Int), ([] : List Int), 2)) = some (r1, r2, r3, r4, r5) := by rw [if_pos rfl] at H; exact H
    clear H
    have H := H1
    clear H1
    simp only [Option.some.injEq, Prod.mk.injEq] at H
    obtain ⟨rfl, rfl, rfl, rfl, rfl⟩ := H
    have hcz9_0 : wc.cell? ⟨gb114, 0, none⟩ = some (.int .i64 0) := (blk_cell BK114.out 0).trans rfl
    have hcz9_1 : wc.cell? ⟨gb114, 1, none⟩ = some (.int .i64 0) := (blk_cell BK114.out 1).trans rfl
    have hcz9_2 : wc.cell? ⟨gb114, 2, none⟩ = some (.slice none 0 0) := (blk_cell BK114.out 2).trans rfl
    have hcz9_3 : wc.cell? ⟨gb114, 3, none⟩ = some (.slice none 0 0) := (blk_cell BK114.out 3).trans rfl
    have hfz9_0 := blk_frozen BK114.out 0
    have hfz9_1 := blk_frozen BK114.out 1
    have hfz9_2 := blk_frozen BK114.out 2
    have hfz9_3 := blk_frozen BK114.out 3
    go_wp2
    refine bodyPost_ret (results_ct rfl _ _ gb114 28 #[.int .i64 0, .int .i64 0, .slice none 0 0, .slice none 0 0] (0, 0) _ rfl (by (with_reducible repeat (first | refine q2N ?_ _ | refine q2D ?_ | refine q2A ?_ _)); refine blk_put (cs := #[.int .i64 0, .int .i64 0, .slice none 0 0, .slice none 0 0]) ?_ 3 _ rfl; (with_reducible repeat (first | refine q2N ?_ _ | refine q2D ?_ | refine q2A ?_ _)); refine blk_put (cs := #[.int .i64 0, .int .i64 0, .slice none 0 0, .slice none 0 0]) ?_ 2 _ rfl; (with_reducible repeat (first | refine q2N ?_ _ | refine q2D ?_ | refine q2A ?_ _)); refine blk_put (cs := #[.int .i64 0, .int .i64 0, .slice none 0 0, .slice none 0 0]) ?_ 1 _ rfl; (with_reducible repeat (first | refine q2N ?_ _ | refine q2D ?_ | refine q2A ?_ _)); refine blk_put (cs := #[.int .i64 0, .int .i64 0, .slice none 0 0, .slice none 0 0]) ?_ 0 _ rfl; (with_reducible repeat (first | refine q2N ?_ _ | refine q2D ?_ | refine q2A ?_ _)); exact BK114.out) Try.underlying28 rfl (by kernel_rfl)) rfl ?_
    exact ⟨_, _, by first | rfl | (simp [errW_none, errW_some] <;> rfl) | (simp [*, errW_none, errW_some] <;> rfl), by first | exact Kd.R_nil _ _ _ _ _ | exact Kd.N_nil _ _ _ _ _ | exact Kd.V_nil _ _ _ _ _ | exact Kd.Q_nil _ _ _ _ _ | exact Kd.S_nil _ _ _ _ _, by first | exact Kd.R_nil _ _ _ _ _ | exact Kd.N_nil _ _ _ _ _ | exact Kd.V_nil _ _ _ _ _ | exact Kd.Q_nil _ _ _ _ _ | exact Kd.S_nil _ _ _ _ _, by repeat (first | (with_reducible first | exact HB.out | apply q2l | apply q2w | apply q2e | refine below_set ?_ GE114.out) | exact HB.out)⟩
   ·replace c8 := Bool.eq_false_iff.mpr c8
    subst c8
    have H1 : (if (l0.length : Int) > 9 then (impl_SortRun.j1 kj2 l0 l1 true) else (impl_SortRun.j1 kj2 l0 l1 (decide ((l1.length : Int) > 100)))) = some (r1, r2, r3, r4, r5) := by rw [if_neg (show ¬ (false = true) by decide)] at H; exact H
    clear H
    have H := H1
    clear H1
    have HC10 := Aside0.mk H
    clear H
    go_upto_region 3 with (fail)
    go_cut [25] (fun v25 wc => ∃ (kq : Nat) (x25_9 : Bool), v25 = .bool x25_9 ∧ Aside0 (impl_SortRun.j1 kq l0 l1 x25_9 = some (r1, r2, r3, r4, r5)) ∧ Aside0 (kq ≤ kj2) ∧ Aside0 (wc.heap[gb114]? = some (.cells #[.int .i64 0, .int .i64 0, (.slice none 0 0), (.slice none 0 0)] 28 (0, 0))) ∧ Aside0 (Below w.heap.size w wc))
    case first =>
     have H := HC10.out
     clear HC10
     by_cases c11 : (l0.length : Int) > 9
     ·rw [if_pos c11] at H
      have c11b0 : decide (9 < (l0.length : Int)) = true := decide_eq_true c11
      have c11b1 : decide (9 < l0.length) = true := decide_eq_true (by omega)
      clear c11
      (first | rw [c11b0] | (simp only [i64_w, i32_w]; rw [c11b0]) | skip)
      have H' := Aside0.mk H
      clear H
      go_wp2
      go_meet
      case rel => exact ⟨_, (true), (by first | rfl | (simp; done) | (simp [*]; done)), H', ⟨by have := HJ2.out; first | omega | exact Nat.le_refl _⟩, ⟨by (with_reducible repeat (first | refine q2N ?_ _ | refine q2D ?_ | refine q2A ?_ _)); exact BK114.out⟩, ⟨by repeat (first | (with_reducible first | exact HB.out | apply q2l | apply q2w | apply q2e | refine below_set ?_ GE114.out) | exact HB.out)⟩⟩
     ·rw [if_neg c11] at H
      have c11b0 : decide (9 < (l0.length : Int)) = false := decide_eq_false c11
      have c11b1 : decide (9 < l0.length) = false := decide_eq_false (by omega)
      clear c11
      (first | rw [c11b0] | (simp only [i64_w, i32_w]; rw [c11b0]) | skip)
      have H' := Aside0.mk H
      clear H
      go_wp2
      go_meet
      case rel => exact ⟨_, (decide ((l1.length : Int) > 100)), (by first | rfl | (simp; done) | (simp [*]; done)), H', ⟨by have := HJ2.out; first | omega | exact Nat.le_refl _⟩, ⟨by (with_reducible repeat (first | refine q2N ?_ _ | refine q2D ?_ | refine q2A ?_ _)); exact BK114.out⟩, ⟨by repeat (first | (with_reducible first | exact HB.out | apply q2l | apply q2w | apply q2e | refine below_set ?_ GE114.out) | exact HB.out)⟩⟩
    case rest =>
     clear HC10
     try clear c1
     try clear c2
     try clear p2
     try clear c6
     try clear c8
     try clear c11
     try clear c11b0
     try clear c11b1
     try clear hcz9_0
     try clear hcz9_1
     try clear hcz9_2
     try clear hcz9_3
     try clear hfz9_0
     try clear hfz9_1
     try clear hfz9_2
     try clear hfz9_3
     try clear p2
     obtain ⟨kq, x25_9, rfl, HA, HJ9, BK114, HB⟩ := hcut
     cases kq with
     | zero => exact absurd HA.out (by simp [impl_SortRun.j1])
     | succ kj9 =>
      have H := HA.out
      clear HA
      simp only [impl_SortRun.j1] at H
      by_cases c12 : x25_9 = true
      ·subst c12
       have H1 : (some (0, 0, ([] : List Int), ([] : List Int), 9)) = some (r1, r2, r3, r4, r5) := by rw [if_pos rfl] at H; exact H
       clear H
       have H := H1
       clear H1
       simp only [Option.some.injEq, Prod.mk.injEq] at H
       obtain ⟨rfl, rfl, rfl, rfl, rfl⟩ := H
       have hcz13_0 : wc.cell? ⟨gb114, 0, none⟩ = some (.int .i64 0) := (blk_cell BK114.out 0).trans rfl
       have hcz13_1 : wc.cell? ⟨gb114, 1, none⟩ = some (.int .i64 0) := (blk_cell BK114.out 1).trans rfl
       have hcz13_2 : wc.cell? ⟨gb114, 2, none⟩ = some (.slice none 0 0) := (blk_cell BK114.out 2).trans rfl
       have hcz13_3 : wc.cell? ⟨gb114, 3, none⟩ = some (.slice none 0 0) := (blk_cell BK114.out 3).trans rfl
       have hfz13_0 := blk_frozen BK114.out 0
       have hfz13_1 := blk_frozen BK114.out 1
       have hfz13_2 := blk_frozen BK114.out 2
       have hfz13_3 := blk_frozen BK114.out 3
       go_wp2
       refine bodyPost_ret (results_ct rfl _ _ gb114 28 #[.int .i64 0, .int .i64 0, .slice none 0 0, .slice none 0 0] (0, 0) _ rfl (by (with_reducible repeat (first | refine q2N ?_ _ | refine q2D ?_ | refine q2A ?_ _)); refine blk_put (cs := #[.int .i64 0, .int .i64 0, .slice none 0 0, .slice none 0 0]) ?_ 3 _ rfl; (with_reducible repeat (first | refine q2N ?_ _ | refine q2D ?_ | refine q2A ?_ _)); refine blk_put (cs := #[.int .i64 0, .int .i64 0, .slice none 0 0, .slice none 0 0]) ?_ 2 _ rfl; (with_reducible repeat (first | refine q2N ?_ _ | refine q2D ?_ | refine q2A ?_ _)); refine blk_put (cs := #[.int .i64 0, .int .i64 0, .slice none 0 0, .slice none 0 0]) ?_ 1 _ rfl; (with_reducible repeat (first | refine q2N ?_ _ | refine q2D ?_ | refine q2A ?_ _)); refine blk_put (cs := #[.int .i64 0, .int .i64 0, .slice none 0 0, .slice none 0 0]) ?_ 0 _ rfl; (with_reducible repeat (first | refine q2N ?_ _ | refine q2D ?_ | refine q2A ?_ _)); exact BK114.out) Try.underlying28 rfl (by kernel_rfl)) rfl ?_
       exact ⟨_, _, by first | rfl | (simp [errW_none, errW_some] <;> rfl) | (simp [*, errW_none, errW_some] <;> rfl), by first | exact Kd.R_nil _ _ _ _ _ | exact Kd.N_nil _ _ _ _ _ | exact Kd.V_nil _ _ _ _ _ | exact Kd.Q_nil _ _ _ _ _ | exact Kd.S_nil _ _ _ _ _, by first | exact Kd.R_nil _ _ _ _ _ | exact Kd.N_nil _ _ _ _ _ | exact Kd.V_nil _ _ _ _ _ | exact Kd.Q_nil _ _ _ _ _ | exact Kd.S_nil _ _ _ _ _, by repeat (first | (with_reducible first | exact HB.out | apply q2l | apply q2w | apply q2e | refine below_set ?_ GE114.out) | exact HB.out)⟩
      ·replace c12 := Bool.eq_false_iff.mpr c12
       subst c12
       have H1 : ((slices_ContainsFunc_at_impl_SortRun_1.f kj9 l0).bind fun t117 => (if t117 = true then (some (0, 0, ([] : List Int), ([] : List Int), 1)) else ((impl_areFrom.f kj9 l1 0 (wrap64 ((l0.length : Int) - 1))).bind fun t118 => (if t118 = true then ((slices_Repeat_int_int.f (([(-1)] : List Int)) (l1.length : Int)).bind fun t122 => (if 0 ≤ (l0.length : Int) then (if ((l0.length : Int) : Int).toNat ≤ 35184372088832 then (if 0 ≤ (l1.length : Int) then (if ((l1.length : Int) : Int).toNat ≤ 35184372088832 then (impl_SortRun.l0 kj9 l0 l1 (([] : List Int)) (List.replicate ((l0.length : Int) : Int).toNat 0) (List.replicate ((l1.length : Int) : Int).toNat 0) (l1.length : Int) 0 0 0 t122) else (none)) else (none)) else (none)) else (none))) else (some (0, 0, ([] : List Int), ([] : List Int), 5)))))) = some (r1, r2, r3, r4, r5) := by rw [if_neg (show ¬ (false = true) by decide)] at H; exact H
       clear H
       have H := H1
       clear H1
       replace H := Option.bind_eq_some_iff.mp H
       obtain ⟨t117, A140, H⟩ := H
       replace H : (if t117 = true then (some (0, 0, ([] : List Int), ([] : List Int), 1)) else ((impl_areFrom.f kj9 l1 0 (wrap64 ((l0.length : Int) - 1))).bind fun t118 => (if t118 = true then ((slices_Repeat_int_int.f (([(-1)] : List Int)) (l1.length : Int)).bind fun t122 => (if 0 ≤ (l0.length : Int) then (if ((l0.length : Int) : Int).toNat ≤ 35184372088832 then (if 0 ≤ (l1.length : Int) then (if ((l1.length : Int) : Int).toNat ≤ 35184372088832 then (impl_SortRun.l0 kj9 l0 l1 (([] : List Int)) (List.replicate ((l0.length : Int) : Int).toNat 0) (List.replicate ((l1.length : Int) : Int).toNat 0) (l1.length : Int) 0 0 0 t122) else (none)) else (none)) else (none)) else (none))) else (some (0, 0, ([] : List Int), ([] : List Int), 5))))) = some (r1, r2, r3, r4, r5) := H
       have A14 := Aside0.mk A140
       clear A140
       by_cases c15 : t117 = true
       ·subst c15
        have H1 : (some (0, 0, ([] : List Int), ([] : List Int), 1)) = some (r1, r2, r3, r4, r5) := by rw [if_pos rfl] at H; exact H
        clear H
        have H := H1
        clear H1
        simp only [Option.some.injEq, Prod.mk.injEq] at H
        obtain ⟨rfl, rfl, rfl, rfl, rfl⟩ := H
        go_wp2_with (first | ((with_reducible refine gate_callee (f := 23) rfl ?_); refine goesL_ (some 37) rfl rfl Try.func23 (by kernel_rfl) rfl #[.slice A0 l0.length c0, .func (.func 24) #[] #[]] rfl (by (try simp only [List.map_toArray, List.map_cons, List.map_nil]); first | done | rfl | (simp only [List.length_drop, List.length_take]; rfl)) ?_; (with_reducible refine (slices_ContainsFunc_at_impl_SortRun_1.calls kj9 _ _ l0 true _ ?side1 ?side2 A14.out).mono ?_); (case side1 => repeat (first | exact (Kd.C_below HR0.out HB.out) | (with_reducible refine Kd.C_alloc ?_ _) | (with_reducible refine Kd.C_drewN ?_ _) | (with_reducible refine Kd.C_drew ?_))); (case side2 => exact HC0.out); rintro e w16 ⟨rfl, hb⟩; refine ⟨_, rfl, ?_⟩; have n0_ := Aside0.mk (blk_below (g := gb114) (o := .cells #[.int .i64 0, .int .i64 0, .slice none 0 0, .slice none 0 0] 28 (0, 0)) (by (with_reducible repeat (first | refine q2N ?_ _ | refine q2D ?_ | refine q2A ?_ _)); exact BK114.out) hb); have n1_ := Aside0.mk (below_step (by repeat (first | (with_reducible first | exact HB.out | apply q2l | apply q2w | apply q2e | refine below_set ?_ GE114.out) | exact HB.out)) hb); clear BK114; clear HB; have BK114 := n0_; have HB := n1_; clear n0_ n1_; (try clear hb); (try clear hb2); (try clear hk); (try clear hi); have hcz17_0 : w16.cell? ⟨gb114, 0, none⟩ = some (.int .i64 0) := (blk_cell BK114.out 0).trans rfl; have hcz17_1 : w16.cell? ⟨gb114, 1, none⟩ = some (.int .i64 0) := (blk_cell BK114.out 1).trans rfl; have hcz17_2 : w16.cell? ⟨gb114, 2, none⟩ = some (.slice none 0 0) := (blk_cell BK114.out 2).trans rfl; have hcz17_3 : w16.cell? ⟨gb114, 3, none⟩ = some (.slice none 0 0) := (blk_cell BK114.out 3).trans rfl; have hfz17_0 := blk_frozen BK114.out 0; have hfz17_1 := blk_frozen BK114.out 1; have hfz17_2 := blk_frozen BK114.out 2; have hfz17_3 := blk_frozen BK114.out 3))
        refine bodyPost_ret (results_ct rfl _ _ gb114 28 #[.int .i64 0, .int .i64 0, .slice none 0 0, .slice none 0 0] (0, 0) _ rfl (by (with_reducible repeat (first | refine q2N ?_ _ | refine q2D ?_ | refine q2A ?_ _)); refine blk_put (cs := #[.int .i64 0, .int .i64 0, .slice none 0 0, .slice none 0 0]) ?_ 3 _ rfl; (with_reducible repeat (first | refine q2N ?_ _ | refine q2D ?_ | refine q2A ?_ _)); refine blk_put (cs := #[.int .i64 0, .int .i64 0, .slice none 0 0, .slice none 0 0]) ?_ 2 _ rfl; (with_reducible repeat (first | refine q2N ?_ _ | refine q2D ?_ | refine q2A ?_ _)); refine blk_put (cs := #[.int .i64 0, .int .i64 0, .slice none 0 0, .slice none 0 0]) ?_ 1 _ rfl; (with_reducible repeat (first | refine q2N ?_ _ | refine q2D ?_ | refine q2A ?_ _)); refine blk_put (cs := #[.int .i64 0, .int .i64 0, .slice none 0 0, .slice none 0 0]) ?_ 0 _ rfl; (with_reducible repeat (first | refine q2N ?_ _ | refine q2D ?_ | refine q2A ?_ _)); exact BK114.out) Try.underlying28 rfl (by kernel_rfl)) rfl ?_
        exact ⟨_, _, by first | rfl | (simp [errW_none, errW_some] <;> rfl) | (simp [*, errW_none, errW_some] <;> rfl), by first | exact Kd.R_nil _ _ _ _ _ | exact Kd.N_nil _ _ _ _ _ | exact Kd.V_nil _ _ _ _ _ | exact Kd.Q_nil _ _ _ _ _ | exact Kd.S_nil _ _ _ _ _, by first | exact Kd.R_nil _ _ _ _ _ | exact Kd.N_nil _ _ _ _ _ | exact Kd.V_nil _ _ _ _ _ | exact Kd.Q_nil _ _ _ _ _ | exact Kd.S_nil _ _ _ _ _, by repeat (first | (with_reducible first | exact HB.out | apply q2l | apply q2w | apply q2e | refine below_set ?_ GE114.out) | exact HB.out)⟩
       ·replace c15 := Bool.eq_false_iff.mpr c15
        subst c15
        have H1 : ((impl_areFrom.f kj9 l1 0 (wrap64 ((l0.length : Int) - 1))).bind fun t118 => (if t118 = true then ((slices_Repeat_int_int.f (([(-1)] : List Int)) (l1.length : Int)).bind fun t122 => (if 0 ≤ (l0.length : Int) then (if ((l0.length : Int) : Int).toNat ≤ 35184372088832 then (if 0 ≤ (l1.length : Int) then (if ((l1.length : Int) : Int).toNat ≤ 35184372088832 then (impl_SortRun.l0 kj9 l0 l1 (([] : List Int)) (List.replicate ((l0.length : Int) : Int).toNat 0) (List.replicate ((l1.length : Int) : Int).toNat 0) (l1.length : Int) 0 0 0 t122) else (none)) else (none)) else (none)) else (none))) else (some (0, 0, ([] : List Int), ([] : List Int), 5)))) = some (r1, r2, r3, r4, r5) := by rw [if_neg (show ¬ (false = true) by decide)] at H; exact H
        clear H
        have H := H1
        clear H1
        replace H := Option.bind_eq_some_iff.mp H
        obtain ⟨t118, A180, H⟩ := H
        replace H : (if t118 = true then ((slices_Repeat_int_int.f (([(-1)] : List Int)) (l1.length : Int)).bind fun t122 => (if 0 ≤ (l0.length : Int) then (if ((l0.length : Int) : Int).toNat ≤ 35184372088832 then (if 0 ≤ (l1.length : Int) then (if ((l1.length : Int) : Int).toNat ≤ 35184372088832 then (impl_SortRun.l0 kj9 l0 l1 (([] : List Int)) (List.replicate ((l0.length : Int) : Int).toNat 0) (List.replicate ((l1.length : Int) : Int).toNat 0) (l1.length : Int) 0 0 0 t122) else (none)) else (none)) else (none)) else (none))) else (some (0, 0, ([] : List Int), ([] : List Int), 5))) = some (r1, r2, r3, r4, r5) := H
        have A18 := Aside0.mk A180
        clear A180
        by_cases c19 : t118 = true
        ·subst c19
         have H1 : ((slices_Repeat_int_int.f (([(-1)] : List Int)) (l1.length : Int)).bind fun t122 => (if 0 ≤ (l0.length : Int) then (if ((l0.length : Int) : Int).toNat ≤ 35184372088832 then (if 0 ≤ (l1.length : Int) then (if ((l1.length : Int) : Int).toNat ≤ 35184372088832 then (impl_SortRun.l0 kj9 l0 l1 (([] : List Int)) (List.replicate ((l0.length : Int) : Int).toNat 0) (List.replicate ((l1.length : Int) : Int).toNat 0) (l1.length : Int) 0 0 0 t122) else (none)) else (none)) else (none)) else (none))) = some (r1, r2, r3, r4, r5) := by rw [if_pos rfl] at H; exact H
         clear H
         have H := H1
         clear H1
         obtain ⟨y119, hy119⟩ : ∃ y_ : List Int, y_ = (([(-1)] : List Int)) := ⟨_, rfl⟩
         replace H : ((slices_Repeat_int_int.f y119 (l1.length : Int)).bind fun t122 => (if 0 ≤ (l0.length : Int) then (if ((l0.length : Int) : Int).toNat ≤ 35184372088832 then (if 0 ≤ (l1.length : Int) then (if ((l1.length : Int) : Int).toNat ≤ 35184372088832 then (impl_SortRun.l0 kj9 l0 l1 (([] : List Int)) (List.replicate ((l0.length : Int) : Int).toNat 0) (List.replicate ((l1.length : Int) : Int).toNat 0) (l1.length : Int) 0 0 0 t122) else (none)) else (none)) else (none)) else (none))) = some (r1, r2, r3, r4, r5) := by first | (rw [hy119]; with_reducible exact H) | (have H2_ := (Option.bind_some _ _).symm.trans H; rw [hy119]; with_reducible exact H2_) | (have H2_ := (Option.bind_some _ _).symm.trans H; with_reducible exact H2_) | with_reducible exact H | (rw [hy119]; exact H) | exact H
         have Ny119 := Aside0.mk hy119
         clear hy119
         replace H := Option.bind_eq_some_iff.mp H
         obtain ⟨t122, A200, H⟩ := H
         replace H : (if 0 ≤ (l0.length : Int) then (if ((l0.length : Int) : Int).toNat ≤ 35184372088832 then (if 0 ≤ (l1.length : Int) then (if ((l1.length : Int) : Int).toNat ≤ 35184372088832 then (impl_SortRun.l0 kj9 l0 l1 (([] : List Int)) (List.replicate ((l0.length : Int) : Int).toNat 0) (List.replicate ((l1.length : Int) : Int).toNat 0) (l1.length : Int) 0 0 0 t122) else (none)) else (none)) else (none)) else (none)) = some (r1, r2, r3, r4, r5) := H
         have A20 := Aside0.mk A200
         clear A200
         obtain ⟨y126, hy126⟩ : ∃ y_ : List Int, y_ = (([] : List Int)) := ⟨_, rfl⟩
         replace H : (if 0 ≤ (l0.length : Int) then (if ((l0.length : Int) : Int).toNat ≤ 35184372088832 then (if 0 ≤ (l1.length : Int) then (if ((l1.length : Int) : Int).toNat ≤ 35184372088832 then (impl_SortRun.l0 kj9 l0 l1 y126 (List.replicate ((l0.length : Int) : Int).toNat 0) (List.replicate ((l1.length : Int) : Int).toNat 0) (l1.length : Int) 0 0 0 t122) else (none)) else (none)) else (none)) else (none)) = some (r1, r2, r3, r4, r5) := by first | (rw [hy126]; with_reducible exact H) | (have H2_ := (Option.bind_some _ _).symm.trans H; rw [hy126]; with_reducible exact H2_) | (have H2_ := (Option.bind_some _ _).symm.trans H; with_reducible exact H2_) | with_reducible exact H | (rw [hy126]; exact H) | exact H
         have Ny126 := Aside0.mk hy126
         clear hy126
         by_cases c21 : 0 ≤ (l0.length : Int)
         ·rw [if_pos c21] at H
          have c21b0 := eq_true c21
          have c21b1 : decide (0 ≤ (l0.length : Int)) = true := decide_eq_true c21
          clear c21
          by_cases c22 : ((l0.length : Int) : Int).toNat ≤ 35184372088832
          ·rw [if_pos c22] at H
           have c22b0 := eq_true c22
           have c22b1 : decide (((l0.length : Int) : Int).toNat ≤ 35184372088832) = true := decide_eq_true c22
           clear c22
           obtain ⟨y129, hy129⟩ : ∃ y_ : List Int, y_ = (List.replicate ((l0.length : Int) : Int).toNat 0) := ⟨_, rfl⟩
           replace H : (if 0 ≤ (l1.length : Int) then (if ((l1.length : Int) : Int).toNat ≤ 35184372088832 then (impl_SortRun.l0 kj9 l0 l1 y126 y129 (List.replicate ((l1.length : Int) : Int).toNat 0) (l1.length : Int) 0 0 0 t122) else (none)) else (none)) = some (r1, r2, r3, r4, r5) := by first | (rw [hy129]; with_reducible exact H) | (have H2_ := (Option.bind_some _ _).symm.trans H; rw [hy129]; with_reducible exact H2_) | (have H2_ := (Option.bind_some _ _).symm.trans H; with_reducible exact H2_) | with_reducible exact H | (rw [hy129]; exact H) | exact H
           have Ny129 := Aside0.mk hy129
           clear hy129
           by_cases c23 : 0 ≤ (l1.length : Int)
           ·rw [if_pos c23] at H
            have c23b0 := eq_true c23
            have c23b1 : decide (0 ≤ (l1.length : Int)) = true := decide_eq_true c23
            clear c23
            by_cases c24 : ((l1.length : Int) : Int).toNat ≤ 35184372088832
            ·rw [if_pos c24] at H
             have c24b0 := eq_true c24
             have c24b1 : decide (((l1.length : Int) : Int).toNat ≤ 35184372088832) = true := decide_eq_true c24
             clear c24
             obtain ⟨y132, hy132⟩ : ∃ y_ : List Int, y_ = (List.replicate ((l1.length : Int) : Int).toNat 0) := ⟨_, rfl⟩
             replace H : (impl_SortRun.l0 kj9 l0 l1 y126 y129 y132 (l1.length : Int) 0 0 0 t122) = some (r1, r2, r3, r4, r5) := by first | (rw [hy132]; with_reducible exact H) | (have H2_ := (Option.bind_some _ _).symm.trans H; rw [hy132]; with_reducible exact H2_) | (have H2_ := (Option.bind_some _ _).symm.trans H; with_reducible exact H2_) | with_reducible exact H | (rw [hy132]; exact H) | exact H
             have Ny132 := Aside0.mk hy132
             clear hy132
             have H' := Aside0.mk H
             clear H
             try go_wp2_with (first | ((with_reducible refine gate_callee (f := 23) rfl ?_); refine goesL_ (some 37) rfl rfl Try.func23 (by kernel_rfl) rfl #[.slice A0 l0.length c0, .func (.func 24) #[] #[]] rfl (by (try simp only [List.map_toArray, List.map_cons, List.map_nil]); first | done | rfl | (simp only [List.length_drop, List.length_take]; rfl)) ?_; (with_reducible refine (slices_ContainsFunc_at_impl_SortRun_1.calls kj9 _ _ l0 false _ ?side1 ?side2 A14.out).mono ?_); (case side1 => repeat (first | exact (Kd.C_below HR0.out HB.out) | (with_reducible refine Kd.C_alloc ?_ _) | (with_reducible refine Kd.C_drewN ?_ _) | (with_reducible refine Kd.C_drew ?_))); (case side2 => exact HC0.out); rintro e w25 ⟨rfl, hb⟩; refine ⟨_, rfl, ?_⟩; have n0_ := Aside0.mk (blk_below (g := gb114) (o := .cells #[.int .i64 0, .int .i64 0, .slice none 0 0, .slice none 0 0] 28 (0, 0)) (by (with_reducible repeat (first | refine q2N ?_ _ | refine q2D ?_ | refine q2A ?_ _)); exact BK114.out) hb); have n1_ := Aside0.mk (below_step (by repeat (first | (with_reducible first | exact HB.out | apply q2l | apply q2w | apply q2e | refine below_set ?_ GE114.out) | exact HB.out)) hb); clear BK114; clear HB; have BK114 := n0_; have HB := n1_; clear n0_ n1_; (try clear hb); (try clear hb2); (try clear hk); (try clear hi)) | ((with_reducible refine gate_callee (f := 26) rfl ?_); refine goesL_ (some 44) rfl rfl Try.func26 (by kernel_rfl) rfl #[.slice A1 l1.length c1, .int .i64 0, .int .i64 (wrap64 ((l0.length : Int) - 1))] rfl (by (try simp only [List.map_toArray, List.map_cons, List.map_nil]); first | done | rfl | (simp only [List.length_drop, List.length_take]; rfl)) ?_; (with_reducible refine (impl_areFrom.calls kj9 _ _ l1 0 (wrap64 ((l0.length : Int) - 1)) true _ ?side1 ?side2 A18.out).mono ?_); (case side1 => repeat (first | exact (Kd.C_below HR1.out HB.out) | (with_reducible refine Kd.C_alloc ?_ _) | (with_reducible refine Kd.C_drewN ?_ _) | (with_reducible refine Kd.C_drew ?_))); (case side2 => exact HC1.out); rintro e w26 ⟨rfl, hb⟩; refine ⟨_, rfl, ?_⟩; have n0_ := Aside0.mk (blk_below (g := gb114) (o := .cells #[.int .i64 0, .int .i64 0, .slice none 0 0, .slice none 0 0] 28 (0, 0)) (by (with_reducible repeat (first | refine q2N ?_ _ | refine q2D ?_ | refine q2A ?_ _)); exact BK114.out) hb); have n1_ := Aside0.mk (below_step (by repeat (first | (with_reducible first | exact HB.out | apply q2l | apply q2w | apply q2e | refine below_set ?_ GE114.out) | exact HB.out)) hb); clear BK114; clear HB; have BK114 := n0_; have HB := n1_; clear n0_ n1_; (try clear hb); (try clear hb2); (try clear hk); (try clear hi)) | ((with_reducible refine gate_dst (N := 47) rfl ?_); (try (refine gate_guard (by rfl) ?_; dsimp only)); refine Kd.R_lit (Kd.int .i64) _ 3 ?hg (N := 47) ?hd (xs := ([(-1)] : List Int)) (inner := [.int .i64 (-1)]) (ok := fun _ => True) (okp := fun _ => True) ?hr ?hp (fun _ hk => hk) trivial (Below.refl _ _) (Nat.le_refl _) (by simp) ?_; (case hd => rfl); (case hg => rfl); (case hr => first | (go_simp; done) | (go_simp; rfl)); (case hp => exact (Reps.one (show Kd.M (Kd.int .i64) _ _ _ (-1) [.int .i64 (-1)] from rfl) (Reps.none _ _))); intro v120 w27 ho28 hb hg_ hnew_; clear hg_ hnew_; (first | rw [← Ny119.out] at ho28 | (simp only [Int.reduceToNat] at ho28; rw [← Ny119.out] at ho28)); have n0_ := Aside0.mk (Kd.R_lower ho28 (below_size (by repeat (first | (with_reducible first | exact HB.out | apply q2l | apply q2w | apply q2e | refine below_set ?_ GE114.out) | exact HB.out)))); have n1_ := Aside0.mk (blk_below (g := gb114) (o := .cells #[.int .i64 0, .int .i64 0, .slice none 0 0, .slice none 0 0] 28 (0, 0)) (by (with_reducible repeat (first | refine q2N ?_ _ | refine q2D ?_ | refine q2A ?_ _)); exact BK114.out) hb); have n2_ := Aside0.mk (below_step (by repeat (first | (with_reducible first | exact HB.out | apply q2l | apply q2w | apply q2e | refine below_set ?_ GE114.out) | exact HB.out)) hb); clear BK114; clear HB; have HO121 := n0_; have BK114 := n1_; have HB := n2_; clear n0_ n1_ n2_; clear hb ho28; obtain ⟨Ao29, co29, eo29⟩ := Kd.R_slice HO121.out; subst eo29) | ((with_reducible refine gate_callee (f := 27) rfl ?_); refine goesL_ (some 50) rfl rfl Try.func27 (by kernel_rfl) rfl #[.slice Ao29 y119.length co29, .int .i64 (l1.length : Int)] rfl (by (try simp only [List.map_toArray, List.map_cons, List.map_nil]); first | done | rfl | (simp only [List.length_drop, List.length_take]; rfl)) ?_; (with_reducible refine (slices_Repeat_int_int.calls _ _ y119 (l1.length : Int) t122 _ ?side1 ?side2 A20.out).mono ?_); (case side1 => repeat (first | exact (Kd.R_reads' HO121.out).2.2 | (with_reducible refine Kd.C_alloc ?_ _) | (with_reducible refine Kd.C_drewN ?_ _) | (with_reducible refine Kd.C_drew ?_))); (case side2 => exact (Kd.R_reads' HO121.out).2.1); rintro e w30 ⟨v123, rfl, ho0, hb⟩; refine ⟨_, rfl, ?_⟩; have n0_ := Aside0.mk (Kd.R_elder' (by (with_reducible repeat (first | apply q2a | apply q2n | apply q2d)); exact HO121.out) (Kd.R_base ho0) hb); have n1_ := Aside0.mk (Kd.R_lower (Kd.R_new' ho0 (Kd.R_lt (by (with_reducible repeat (first | apply q2a | apply q2n | apply q2d)); exact HO121.out))) (below_size (by repeat (first | (with_reducible first | exact HB.out | apply q2l | apply q2w | apply q2e | refine below_set ?_ GE114.out) | exact HB.out)))); have n2_ := Aside0.mk (blk_below (g := gb114) (o := .cells #[.int .i64 0, .int .i64 0, .slice none 0 0, .slice none 0 0] 28 (0, 0)) (by (with_reducible repeat (first | refine q2N ?_ _ | refine q2D ?_ | refine q2A ?_ _)); exact BK114.out) hb); have n3_ := Aside0.mk (below_step (by repeat (first | (with_reducible first | exact HB.out | apply q2l | apply q2w | apply q2e | refine below_set ?_ GE114.out) | exact HB.out)) hb); clear HO121; clear BK114; clear HB; have HO121 := n0_; have HO124 := n1_; have BK114 := n2_; have HB := n3_; clear n0_ n1_ n2_ n3_; (try clear hb); (try clear hb2); (try clear hk); (try clear hi); (try clear ho0); obtain ⟨Ao31, co31, eo31⟩ := Kd.R_slice HO124.out; subst eo31) | ((with_reducible refine gate_dst (N := 6) rfl ?_); (try (refine gate_guard (by rfl) ?_; dsimp only)); refine box_event ?hg (N := 6) ?hd (cs := #[.int .i64 0, .int .i64 0, .slice none 0 0, .slice none 0 0]) (t := 28) ?hr ?_; (case hd => rfl); (case hg => rfl); (case hr => first | (go_simp; done) | (go_simp; rfl)); intro gb125 hg w32 hbox hb; have n0_ := Aside0.mk (Kd.R_below (by (with_reducible repeat (first | apply q2a | apply q2n | apply q2d)); exact HO121.out) hb); have n1_ := Aside0.mk (Kd.R_below (by (with_reducible repeat (first | apply q2a | apply q2n | apply q2d)); exact HO124.out) hb); have n2_ := Aside0.mk (blk_below (g := gb114) (o := .cells #[.int .i64 0, .int .i64 0, .slice none 0 0, .slice none 0 0] 28 (0, 0)) (by (with_reducible repeat (first | refine q2N ?_ _ | refine q2D ?_ | refine q2A ?_ _)); exact BK114.out) hb); have n3_ := Aside0.mk (below_step (by repeat (first | (with_reducible first | exact HB.out | apply q2l | apply q2w | apply q2e | refine below_set ?_ GE114.out) | exact HB.out)) hb); have n4_ := Aside0.mk (hbox); have n5_ := Aside0.mk ((by rw [hg]; exact (below_size (by repeat (first | (with_reducible first | exact HB.out | apply q2l | apply q2w | apply q2e | refine below_set ?_ GE114.out) | exact HB.out))) : w.heap.size ≤ gb125)); have n6_ := Aside0.mk ((by rw [hg]; exact (below_size (by repeat (first | (with_reducible first | exact HB.out | apply q2l | apply q2w | apply q2e | refine below_set ?_ GE114.out) | exact HB.out))) : w.heap.size ≤ gb125)); have n7_ := Aside0.mk ((by rw [hg]; exact Nat.ne_of_lt (blk_lt (g := gb114) (o := .cells #[.int .i64 0, .int .i64 0, .slice none 0 0, .slice none 0 0] 28 (0, 0)) (by (with_reducible repeat (first | refine q2N ?_ _ | refine q2D ?_ | refine q2A ?_ _)); exact BK114.out)) : gb114 ≠ gb125)); have n8_ := Aside0.mk ((by rw [hg]; exact Nat.ne_of_gt (blk_lt (g := gb114) (o := .cells #[.int .i64 0, .int .i64 0, .slice none 0 0, .slice none 0 0] 28 (0, 0)) (by (with_reducible repeat (first | refine q2N ?_ _ | refine q2D ?_ | refine q2A ?_ _)); exact BK114.out)) : gb125 ≠ gb114)); clear HO121; clear HO124; clear BK114; clear HB; have HO121 := n0_; have HO124 := n1_; have BK114 := n2_; have HB := n3_; have BK125 := n4_; have GW125 := n5_; have GE125 := n6_; have NB114_125 := n7_; have NB125_114 := n8_; clear n0_ n1_ n2_ n3_ n4_ n5_ n6_ n7_ n8_; clear hb hbox hg; have hnb33 := NB125_114.out; have hnc33 := NB114_125.out; have hcz34_0 : w32.cell? ⟨gb125, 0, none⟩ = some (.int .i64 0) := (blk_cell BK125.out 0).trans rfl; have hcz34_1 : w32.cell? ⟨gb125, 1, none⟩ = some (.int .i64 0) := (blk_cell BK125.out 1).trans rfl; have hcz34_2 : w32.cell? ⟨gb125, 2, none⟩ = some (.slice none 0 0) := (blk_cell BK125.out 2).trans rfl; have hcz34_3 : w32.cell? ⟨gb125, 3, none⟩ = some (.slice none 0 0) := (blk_cell BK125.out 3).trans rfl; have hfz34_0 := blk_frozen BK125.out 0; have hfz34_1 := blk_frozen BK125.out 1; have hfz34_2 := blk_frozen BK125.out 2; have hfz34_3 := blk_frozen BK125.out 3))
             have n0_ : Aside0 (Kd.R (Kd.int .i64) 3 ((((w32.setCell ⟨gb125, 0, none⟩ (.int .i64 0)).setCell ⟨gb125, 1, none⟩ (.int .i64 0)).setCell ⟨gb125, 2, none⟩ (.slice Ao31 t122.length co31)).setCell ⟨gb125, 3, none⟩ (.slice none 0 0)) w.heap.size (fun k_ => some k_ ≠ (.slice Ao31 t122.length co31 : Value).ownBlock) (.slice Ao29 y119.length co29) y119) := ⟨by (with_reducible repeat (first | apply q2a | apply q2n | apply q2d)); exact Kd.R_mono (Kd.R_far (p := ⟨gb125, 3, none⟩) (Kd.R_far (p := ⟨gb125, 2, none⟩) (Kd.R_far (p := ⟨gb125, 1, none⟩) (Kd.R_far (p := ⟨gb125, 0, none⟩) (Kd.R_types HO121.out BK125.out (by decide)) (fun _ hk => hk.2) (.int .i64 0)) (fun _ hk => hk.2) (.int .i64 0)) (fun _ hk => hk.2) (.slice Ao31 t122.length co31)) (fun _ hk => hk.2) (.slice none 0 0)) (fun _ hk => hk.1.2)⟩
             have n1_ : Aside0 (Kd.R (Kd.int .i64) 3 ((((w32.setCell ⟨gb125, 0, none⟩ (.int .i64 0)).setCell ⟨gb125, 1, none⟩ (.int .i64 0)).setCell ⟨gb125, 2, none⟩ (.slice Ao31 t122.length co31)).setCell ⟨gb125, 3, none⟩ (.slice none 0 0)) w.heap.size (fun k_ => some k_ ≠ (.slice Ao29 y119.length co29 : Value).ownBlock) (.slice Ao31 t122.length co31) t122) := ⟨by (with_reducible repeat (first | apply q2a | apply q2n | apply q2d)); exact Kd.R_mono (Kd.R_far (p := ⟨gb125, 3, none⟩) (Kd.R_far (p := ⟨gb125, 2, none⟩) (Kd.R_far (p := ⟨gb125, 1, none⟩) (Kd.R_far (p := ⟨gb125, 0, none⟩) (Kd.R_types HO124.out BK125.out (by decide)) (fun _ hk => hk.2) (.int .i64 0)) (fun _ hk => hk.2) (.int .i64 0)) (fun _ hk => hk.2) (.slice Ao31 t122.length co31)) (fun _ hk => hk.2) (.slice none 0 0)) (fun _ hk => hk.1.2)⟩
             have n2_ : Aside0 (((((w32.setCell ⟨gb125, 0, none⟩ (.int .i64 0)).setCell ⟨gb125, 1, none⟩ (.int .i64 0)).setCell ⟨gb125, 2, none⟩ (.slice Ao31 t122.length co31)).setCell ⟨gb125, 3, none⟩ (.slice none 0 0)).heap[gb114]? = some (.cells #[.int .i64 0, .int .i64 0, .slice none 0 0, .slice none 0 0] 28 (0, 0))) := ⟨by (with_reducible repeat (first | refine q2N ?_ _ | refine q2D ?_ | refine q2A ?_ _)); refine blk_far ?_ NB114_125.out _; (with_reducible repeat (first | refine q2N ?_ _ | refine q2D ?_ | refine q2A ?_ _)); refine blk_far ?_ NB114_125.out _; (with_reducible repeat (first | refine q2N ?_ _ | refine q2D ?_ | refine q2A ?_ _)); refine blk_far ?_ NB114_125.out _; (with_reducible repeat (first | refine q2N ?_ _ | refine q2D ?_ | refine q2A ?_ _)); refine blk_far ?_ NB114_125.out _; (with_reducible repeat (first | refine q2N ?_ _ | refine q2D ?_ | refine q2A ?_ _)); exact BK114.out⟩
             have n3_ : Aside0 (((((w32.setCell ⟨gb125, 0, none⟩ (.int .i64 0)).setCell ⟨gb125, 1, none⟩ (.int .i64 0)).setCell ⟨gb125, 2, none⟩ (.slice Ao31 t122.length co31)).setCell ⟨gb125, 3, none⟩ (.slice none 0 0)).heap[gb125]? = some (.cells #[.int .i64 0, .int .i64 0, .slice Ao31 t122.length co31, .slice none 0 0] 28 (0, 0))) := ⟨by (with_reducible repeat (first | refine q2N ?_ _ | refine q2D ?_ | refine q2A ?_ _)); refine blk_put (cs := #[.int .i64 0, .int .i64 0, .slice Ao31 t122.length co31, .slice none 0 0]) ?_ 3 _ rfl; (with_reducible repeat (first | refine q2N ?_ _ | refine q2D ?_ | refine q2A ?_ _)); refine blk_put (cs := #[.int .i64 0, .int .i64 0, .slice none 0 0, .slice none 0 0]) ?_ 2 _ rfl; (with_reducible repeat (first | refine q2N ?_ _ | refine q2D ?_ | refine q2A ?_ _)); refine blk_put (cs := #[.int .i64 0, .int .i64 0, .slice none 0 0, .slice none 0 0]) ?_ 1 _ rfl; (with_reducible repeat (first | refine q2N ?_ _ | refine q2D ?_ | refine q2A ?_ _)); refine blk_put (cs := #[.int .i64 0, .int .i64 0, .slice none 0 0, .slice none 0 0]) ?_ 0 _ rfl; (with_reducible repeat (first | refine q2N ?_ _ | refine q2D ?_ | refine q2A ?_ _)); exact BK125.out⟩
             have n4_ : Aside0 (Below w.heap.size w ((((w32.setCell ⟨gb125, 0, none⟩ (.int .i64 0)).setCell ⟨gb125, 1, none⟩ (.int .i64 0)).setCell ⟨gb125, 2, none⟩ (.slice Ao31 t122.length co31)).setCell ⟨gb125, 3, none⟩ (.slice none 0 0))) := ⟨by repeat (first | (with_reducible first | exact HB.out | apply q2l | apply q2w | apply q2e | refine below_set ?_ GE114.out | refine below_set ?_ GE125.out) | exact HB.out)⟩
             (try clear HO121)
             (try clear HO124)
             (try clear BK114)
             (try clear BK125)
             (try clear HB)
             generalize ((((w32.setCell ⟨gb125, 0, none⟩ (.int .i64 0)).setCell ⟨gb125, 1, none⟩ (.int .i64 0)).setCell ⟨gb125, 2, none⟩ (.slice Ao31 t122.length co31)).setCell ⟨gb125, 3, none⟩ (.slice none 0 0)) = w35 at n0_ n1_ n2_ n3_ n4_ ⊢
             have HO121 := n0_
             have HO124 := n1_
             have BK114 := n2_
             have BK125 := n3_
             have HB := n4_
             clear n0_ n1_ n2_ n3_ n4_
             have n0_ := Aside0.mk (q2d HO121.out)
             have n1_ := Aside0.mk (q2d HO124.out)
             have n2_ := Aside0.mk (q2D BK114.out)
             have n3_ := Aside0.mk (q2D BK125.out)
             have n4_ := Aside0.mk (q2e HB.out)
             clear HO121
             clear HO124
             clear BK114
             clear BK125
             clear HB
             have HO121 := n0_
             have HO124 := n1_
             have BK114 := n2_
             have BK125 := n3_
             have HB := n4_
             clear n0_ n1_ n2_ n3_ n4_
             refine start_ (n := 10) (S := fun w' => True) (ds := []) #[false, false, false, false, false, false, false, false, false, false] (by kernel_rfl) rfl rfl trivial (fun hHeld => ?_); refine with_tabW impl_SortRun.tab10 impl_SortRun.bits10 (fun HT_ HW_ => ?_)
             generalize w35.drew = w36 at HO121 HO124 BK114 BK125 HB hHeld ⊢
             refine pure_ (i := 1) (N := some 53) (v := ?_) (a' := ?_) #[false, true, false, false, false, false, false, false, false, false] rfl rfl (any_of HT_.out (by kernel_rfl)) (fun _ _ _ h => h) (Or.inl ⟨by rfl, ?_⟩) ?_ ?_
             rotate_left
             ·intro w'
              go_simp
              with_reducible rfl
             rotate_left
             ·simp only [Act.put, List.setIfInBounds_toArray, List.set_cons_zero, List.set_cons_succ, i64_w, i32_w]
              rfl
             refine pure_ (i := 2) (N := some 54) (v := ?_) (a' := ?_) #[false, true, true, false, false, false, false, false, false, false] rfl rfl (any_of HT_.out (by kernel_rfl)) (fun _ _ _ h => h) (Or.inl ⟨by rfl, ?_⟩) ?_ ?_
             rotate_left
             ·intro w'
              go_simp
              with_reducible rfl
             rotate_left
             ·simp only [Act.put, List.setIfInBounds_toArray, List.set_cons_zero, List.set_cons_succ, i64_w, i32_w]
              rfl
             refine pure_ (i := 4) (N := some 56) (v := ?_) (a' := ?_) #[false, true, true, false, true, false, false, false, false, false] rfl rfl (any_of HT_.out (by kernel_rfl)) (fun _ _ _ h => h) (Or.inl ⟨by rfl, ?_⟩) ?_ ?_
             rotate_left
             ·intro w'
              go_simp
              with_reducible rfl
             rotate_left
             ·simp only [Act.put, List.setIfInBounds_toArray, List.set_cons_zero, List.set_cons_succ, i64_w, i32_w]
              rfl
             refine pure_ (i := 5) (N := some 57) (v := ?_) (a' := ?_) #[false, true, true, false, true, true, false, false, false, false] rfl rfl (any_of HT_.out (by kernel_rfl)) (fun _ _ _ h => h) (Or.inl ⟨by rfl, ?_⟩) ?_ ?_
             rotate_left
             ·intro w'
              go_simp
              with_reducible rfl
             rotate_left
             ·simp only [Act.put, List.setIfInBounds_toArray, List.set_cons_zero, List.set_cons_succ, i64_w, i32_w]
              rfl
             refine join_ (σ := Value × Value × Value) 1 b2A0 (fun s_ => [(52, s_.1), (55, s_.2.1), (58, s_.2.2), (7, s_.1), (8, s_.2.1)]) (fun s_ w' => (Kd.R (Kd.int .i64) 3 w' w.heap.size (fun k_ => some k_ ≠ (.slice Ao31 t122.length co31 : Value).ownBlock ∧ some k_ ≠ (s_.1 : Value).ownBlock ∧ some k_ ≠ (s_.2.1 : Value).ownBlock ∧ some k_ ≠ (s_.2.2 : Value).ownBlock) (.slice Ao29 y119.length co29) y119) ∧ (Kd.R (Kd.int .i64) 3 w' w.heap.size (fun k_ => some k_ ≠ (.slice Ao29 y119.length co29 : Value).ownBlock ∧ some k_ ≠ (s_.1 : Value).ownBlock ∧ some k_ ≠ (s_.2.1 : Value).ownBlock ∧ some k_ ≠ (s_.2.2 : Value).ownBlock) (.slice Ao31 t122.length co31) t122) ∧ (Kd.R (Kd.int .i64) 3 w' w.heap.size (fun k_ => some k_ ≠ (.slice Ao29 y119.length co29 : Value).ownBlock ∧ some k_ ≠ (.slice Ao31 t122.length co31 : Value).ownBlock ∧ some k_ ≠ (s_.2.1 : Value).ownBlock ∧ some k_ ≠ (s_.2.2 : Value).ownBlock) s_.1 y126) ∧ (Kd.R (Kd.int .i64) 3 w' w.heap.size (fun k_ => some k_ ≠ (.slice Ao29 y119.length co29 : Value).ownBlock ∧ some k_ ≠ (.slice Ao31 t122.length co31 : Value).ownBlock ∧ some k_ ≠ (s_.1 : Value).ownBlock ∧ some k_ ≠ (s_.2.2 : Value).ownBlock) s_.2.1 y129) ∧ (Kd.R (Kd.int .i64) 3 w' w.heap.size (fun k_ => some k_ ≠ (.slice Ao29 y119.length co29 : Value).ownBlock ∧ some k_ ≠ (.slice Ao31 t122.length co31 : Value).ownBlock ∧ some k_ ≠ (s_.1 : Value).ownBlock ∧ some k_ ≠ (s_.2.1 : Value).ownBlock) s_.2.2 y132) ∧ (w'.heap[gb114]? = some (.cells #[.int .i64 0, .int .i64 0, .slice none 0 0, .slice none 0 0] 28 (0, 0))) ∧ (w'.heap[gb125]? = some (.cells #[.int .i64 0, .int .i64 0, .slice Ao31 t122.length co31, .slice none 0 0] 28 (0, 0))) ∧ (Below w.heap.size w w')) ?_ ?_
             rotate_left
             ·intro hJ0_3_6
              refine join_ (σ := Value × Value) 2 b2A1 (fun s_ => [(52, s_.1), (55, s_.2), (7, s_.1), (8, s_.2)]) (fun s_ w' => (Kd.R (Kd.int .i64) 3 w' w.heap.size (fun k_ => some k_ ≠ (.slice Ao31 t122.length co31 : Value).ownBlock ∧ some k_ ≠ (s_.1 : Value).ownBlock ∧ some k_ ≠ (s_.2 : Value).ownBlock) (.slice Ao29 y119.length co29) y119) ∧ (Kd.R (Kd.int .i64) 3 w' w.heap.size (fun k_ => some k_ ≠ (.slice Ao29 y119.length co29 : Value).ownBlock ∧ some k_ ≠ (s_.1 : Value).ownBlock ∧ some k_ ≠ (s_.2 : Value).ownBlock) (.slice Ao31 t122.length co31) t122) ∧ (Kd.R (Kd.int .i64) 3 w' w.heap.size (fun k_ => some k_ ≠ (.slice Ao29 y119.length co29 : Value).ownBlock ∧ some k_ ≠ (.slice Ao31 t122.length co31 : Value).ownBlock ∧ some k_ ≠ (s_.2 : Value).ownBlock) s_.1 y126) ∧ (Kd.R (Kd.int .i64) 3 w' w.heap.size (fun k_ => some k_ ≠ (.slice Ao29 y119.length co29 : Value).ownBlock ∧ some k_ ≠ (.slice Ao31 t122.length co31 : Value).ownBlock ∧ some k_ ≠ (s_.1 : Value).ownBlock) s_.2 y129) ∧ (w'.heap[gb114]? = some (.cells #[.int .i64 0, .int .i64 0, .slice none 0 0, .slice none 0 0] 28 (0, 0))) ∧ (w'.heap[gb125]? = some (.cells #[.int .i64 0, .int .i64 0, .slice Ao31 t122.length co31, .slice none 0 0] 28 (0, 0))) ∧ (Below w.heap.size w w')) ?_ ?_
              rotate_left
              ·intro hJ0_3
               refine join_ (σ := Value × Value) 3 b2A2 (fun s_ => [(52, s_.1), (58, s_.2), (7, s_.1)]) (fun s_ w' => (Kd.R (Kd.int .i64) 3 w' w.heap.size (fun k_ => some k_ ≠ (.slice Ao31 t122.length co31 : Value).ownBlock ∧ some k_ ≠ (s_.1 : Value).ownBlock ∧ some k_ ≠ (s_.2 : Value).ownBlock) (.slice Ao29 y119.length co29) y119) ∧ (Kd.R (Kd.int .i64) 3 w' w.heap.size (fun k_ => some k_ ≠ (.slice Ao29 y119.length co29 : Value).ownBlock ∧ some k_ ≠ (s_.1 : Value).ownBlock ∧ some k_ ≠ (s_.2 : Value).ownBlock) (.slice Ao31 t122.length co31) t122) ∧ (Kd.R (Kd.int .i64) 3 w' w.heap.size (fun k_ => some k_ ≠ (.slice Ao29 y119.length co29 : Value).ownBlock ∧ some k_ ≠ (.slice Ao31 t122.length co31 : Value).ownBlock ∧ some k_ ≠ (s_.2 : Value).ownBlock) s_.1 y126) ∧ (Kd.R (Kd.int .i64) 3 w' w.heap.size (fun k_ => some k_ ≠ (.slice Ao29 y119.length co29 : Value).ownBlock ∧ some k_ ≠ (.slice Ao31 t122.length co31 : Value).ownBlock ∧ some k_ ≠ (s_.1 : Value).ownBlock) s_.2 y132) ∧ (w'.heap[gb114]? = some (.cells #[.int .i64 0, .int .i64 0, .slice none 0 0, .slice none 0 0] 28 (0, 0))) ∧ (w'.heap[gb125]? = some (.cells #[.int .i64 0, .int .i64 0, .slice Ao31 t122.length co31, .slice none 0 0] 28 (0, 0))) ∧ (Below w.heap.size w w')) ?_ ?_
               rotate_left
               ·intro hJ0_6
                refine join_ (σ := Value × Value) 4 b2A3 (fun s_ => [(55, s_.1), (58, s_.2)]) (fun s_ w' => (Kd.R (Kd.int .i64) 3 w' w.heap.size (fun k_ => some k_ ≠ (.slice Ao31 t122.length co31 : Value).ownBlock ∧ some k_ ≠ (s_.1 : Value).ownBlock ∧ some k_ ≠ (s_.2 : Value).ownBlock) (.slice Ao29 y119.length co29) y119) ∧ (Kd.R (Kd.int .i64) 3 w' w.heap.size (fun k_ => some k_ ≠ (.slice Ao29 y119.length co29 : Value).ownBlock ∧ some k_ ≠ (s_.1 : Value).ownBlock ∧ some k_ ≠ (s_.2 : Value).ownBlock) (.slice Ao31 t122.length co31) t122) ∧ (Kd.R (Kd.int .i64) 3 w' w.heap.size (fun k_ => some k_ ≠ (.slice Ao29 y119.length co29 : Value).ownBlock ∧ some k_ ≠ (.slice Ao31 t122.length co31 : Value).ownBlock ∧ some k_ ≠ (s_.2 : Value).ownBlock) s_.1 y129) ∧ (Kd.R (Kd.int .i64) 3 w' w.heap.size (fun k_ => some k_ ≠ (.slice Ao29 y119.length co29 : Value).ownBlock ∧ some k_ ≠ (.slice Ao31 t122.length co31 : Value).ownBlock ∧ some k_ ≠ (s_.1 : Value).ownBlock) s_.2 y132) ∧ (w'.heap[gb114]? = some (.cells #[.int .i64 0, .int .i64 0, .slice none 0 0, .slice none 0 0] 28 (0, 0))) ∧ (w'.heap[gb125]? = some (.cells #[.int .i64 0, .int .i64 0, .slice Ao31 t122.length co31, .slice none 0 0] 28 (0, 0))) ∧ (Below w.heap.size w w')) ?_ ?_
                rotate_left
                ·intro hJ3_6
                 refine join_ (σ := Value) 4 b2A16 (fun s_ => [(52, s_), (7, s_)]) (fun s_ w' => (Kd.R (Kd.int .i64) 3 w' w.heap.size (fun k_ => some k_ ≠ (.slice Ao31 t122.length co31 : Value).ownBlock ∧ some k_ ≠ (s_ : Value).ownBlock) (.slice Ao29 y119.length co29) y119) ∧ (Kd.R (Kd.int .i64) 3 w' w.heap.size (fun k_ => some k_ ≠ (.slice Ao29 y119.length co29 : Value).ownBlock ∧ some k_ ≠ (s_ : Value).ownBlock) (.slice Ao31 t122.length co31) t122) ∧ (Kd.R (Kd.int .i64) 3 w' w.heap.size (fun k_ => some k_ ≠ (.slice Ao29 y119.length co29 : Value).ownBlock ∧ some k_ ≠ (.slice Ao31 t122.length co31 : Value).ownBlock) s_ y126) ∧ (w'.heap[gb114]? = some (.cells #[.int .i64 0, .int .i64 0, .slice none 0 0, .slice none 0 0] 28 (0, 0))) ∧ (w'.heap[gb125]? = some (.cells #[.int .i64 0, .int .i64 0, .slice Ao31 t122.length co31, .slice none 0 0] 28 (0, 0))) ∧ (Below w.heap.size w w')) ?_ ?_
                 rotate_left
                 ·intro hJ0
                  refine join_ (σ := Value) 5 b2A17 (fun s_ => [(55, s_)]) (fun s_ w' => (Kd.R (Kd.int .i64) 3 w' w.heap.size (fun k_ => some k_ ≠ (.slice Ao31 t122.length co31 : Value).ownBlock ∧ some k_ ≠ (s_ : Value).ownBlock) (.slice Ao29 y119.length co29) y119) ∧ (Kd.R (Kd.int .i64) 3 w' w.heap.size (fun k_ => some k_ ≠ (.slice Ao29 y119.length co29 : Value).ownBlock ∧ some k_ ≠ (s_ : Value).ownBlock) (.slice Ao31 t122.length co31) t122) ∧ (Kd.R (Kd.int .i64) 3 w' w.heap.size (fun k_ => some k_ ≠ (.slice Ao29 y119.length co29 : Value).ownBlock ∧ some k_ ≠ (.slice Ao31 t122.length co31 : Value).ownBlock) s_ y129) ∧ (w'.heap[gb114]? = some (.cells #[.int .i64 0, .int .i64 0, .slice none 0 0, .slice none 0 0] 28 (0, 0))) ∧ (w'.heap[gb125]? = some (.cells #[.int .i64 0, .int .i64 0, .slice Ao31 t122.length co31, .slice none 0 0] 28 (0, 0))) ∧ (Below w.heap.size w w')) ?_ ?_
                  rotate_left
                  ·intro hJ3
                   refine join_ (σ := Value) 5 b2A18 (fun s_ => [(58, s_)]) (fun s_ w' => (Kd.R (Kd.int .i64) 3 w' w.heap.size (fun k_ => some k_ ≠ (.slice Ao31 t122.length co31 : Value).ownBlock ∧ some k_ ≠ (s_ : Value).ownBlock) (.slice Ao29 y119.length co29) y119) ∧ (Kd.R (Kd.int .i64) 3 w' w.heap.size (fun k_ => some k_ ≠ (.slice Ao29 y119.length co29 : Value).ownBlock ∧ some k_ ≠ (s_ : Value).ownBlock) (.slice Ao31 t122.length co31) t122) ∧ (Kd.R (Kd.int .i64) 3 w' w.heap.size (fun k_ => some k_ ≠ (.slice Ao29 y119.length co29 : Value).ownBlock ∧ some k_ ≠ (.slice Ao31 t122.length co31 : Value).ownBlock) s_ y132) ∧ (w'.heap[gb114]? = some (.cells #[.int .i64 0, .int .i64 0, .slice none 0 0, .slice none 0 0] 28 (0, 0))) ∧ (w'.heap[gb125]? = some (.cells #[.int .i64 0, .int .i64 0, .slice Ao31 t122.length co31, .slice none 0 0] 28 (0, 0))) ∧ (Below w.heap.size w w')) ?_ ?_
                   rotate_left
                   ·intro hJ6
                    refine three_ (i := 0) (j := 3) (k := 6) (Ni := some 52) (Nj := some 55) (Nk := some 58) #[true, true, true, false, true, true, false, false, false, false] b2A17 b2A18 rfl rfl rfl rfl rfl rfl (three_of HT_.out (by kernel_rfl)) (by decide) (by decide) (by decide) (fun K hK => ?_) (fun K hK => ?_) (fun K hK => ?_)
                    ·skip
                     refine Kd.R_lit_step (Kd.int .i64) _ 3 ?hg (N := 52) ?hd (xs := ([] : List Int)) (inner := []) (ok := fun _ => True) (okp := fun _ => True) ?hr ?hp (fun _ hk => hk) trivial (Below.refl _ _) (Nat.le_refl _) (by simp) ?_; (case hd => rfl); (case hg => rfl); (case hr => first | (go_simp; done) | (go_simp; rfl)); (case hp => exact (Reps.none _ _))
                     intro v127 w37 ho38 hb hg_ hnew_
                     clear hg_ hnew_
                     (first | rw [← Ny126.out] at ho38 | (simp only [Int.reduceToNat] at ho38; rw [← Ny126.out] at ho38))
                     have n0_ := Aside0.mk (Kd.R_elder' (by (with_reducible repeat (first | apply q2a | apply q2n | apply q2d)); exact HO121.out) (Kd.R_base ho38) hb)
                     have n1_ := Aside0.mk (Kd.R_elder' (by (with_reducible repeat (first | apply q2a | apply q2n | apply q2d)); exact HO124.out) (Kd.R_base ho38) hb)
                     have n2_ := Aside0.mk (Kd.R_lower (Kd.R_new' (Kd.R_new' ho38 (Kd.R_lt (by (with_reducible repeat (first | apply q2a | apply q2n | apply q2d)); exact HO121.out))) (Kd.R_lt (by (with_reducible repeat (first | apply q2a | apply q2n | apply q2d)); exact HO124.out))) (below_size (by repeat (first | (with_reducible first | exact HB.out | apply q2l | apply q2w | apply q2e | refine below_set ?_ GE114.out | refine below_set ?_ GE125.out) | exact HB.out))))
                     have n3_ := Aside0.mk (blk_below (g := gb114) (o := .cells #[.int .i64 0, .int .i64 0, .slice none 0 0, .slice none 0 0] 28 (0, 0)) (by (with_reducible repeat (first | refine q2N ?_ _ | refine q2D ?_ | refine q2A ?_ _)); exact BK114.out) hb)
                     have n4_ := Aside0.mk (blk_below (g := gb125) (o := .cells #[.int .i64 0, .int .i64 0, .slice Ao31 t122.length co31, .slice none 0 0] 28 (0, 0)) (by (with_reducible repeat (first | refine q2N ?_ _ | refine q2D ?_ | refine q2A ?_ _)); exact BK125.out) hb)
                     have n5_ := Aside0.mk (below_step (by repeat (first | (with_reducible first | exact HB.out | apply q2l | apply q2w | apply q2e | refine below_set ?_ GE114.out | refine below_set ?_ GE125.out) | exact HB.out)) hb)
                     clear HO121
                     clear HO124
                     clear BK114
                     clear BK125
                     clear HB
                     have HO121 := n0_
                     have HO124 := n1_
                     have HO128 := n2_
                     have BK114 := n3_
                     have BK125 := n4_
                     have HB := n5_
                     clear n0_ n1_ n2_ n3_ n4_ n5_
                     clear hb ho38
                     refine hK.out _ _ trivial (fun hHeld => ?_)
                     clear hK K
                     refine norm_ (a' := ?_) ?_ ?_
                     rotate_left
                     ·show Act.put _ (some 52) _ = _
                      simp only [Act.put, List.setIfInBounds_toArray, List.set_cons_zero, List.set_cons_succ, i64_w, i32_w]
                      rfl
                     refine pure_ (i := 7) (N := some 7) (v := ?_) (a' := ?_) b2A16 rfl rfl (any_of HT_.out (by kernel_rfl)) (fun _ _ _ h => h) (Or.inl ⟨by rfl, ?_⟩) ?_ ?_
                     rotate_left
                     ·intro w'
                      go_simp
                      with_reducible rfl
                     rotate_left
                     ·simp only [Act.put, List.setIfInBounds_toArray, List.set_cons_zero, List.set_cons_succ, i64_w, i32_w]
                      rfl
                     exact norm_ (by first | (simp only [putAll, Act.put, List.setIfInBounds_toArray, List.set_cons_zero, List.set_cons_succ]; done) | (simp only [putAll, Act.put, List.setIfInBounds_toArray, List.set_cons_zero, List.set_cons_succ]; rfl)) (hJ0 (v127) _ ⟨(by (with_reducible repeat (first | apply q2a | apply q2n | apply q2d)); exact HO121.out), (by (with_reducible repeat (first | apply q2a | apply q2n | apply q2d)); exact HO124.out), (by (with_reducible repeat (first | apply q2a | apply q2n | apply q2d)); exact Kd.R_mono HO128.out (fun _ hk => ⟨hk.1.2, hk.2⟩)), (by (with_reducible repeat (first | refine q2N ?_ _ | refine q2D ?_ | refine q2A ?_ _)); exact BK114.out), (by (with_reducible repeat (first | refine q2N ?_ _ | refine q2D ?_ | refine q2A ?_ _)); exact BK125.out), (by repeat (first | (with_reducible first | exact HB.out | apply q2l | apply q2w | apply q2e | refine below_set ?_ GE114.out | refine below_set ?_ GE125.out) | exact HB.out))⟩)
                    ·skip
                     refine Kd.R_make_step (Kd.int .i64) _ 3 (by rfl) (N := 55) rfl 24 _ _ rfl (l0.length : Int) rfl rfl Try.underlying24 (.int .i64 0) 8 info3 rfl (by decide) (by omega) 0 (ok := fun _ => True) (okp := fun _ => True) rfl (fun _ hk => hk) trivial (of_decide_eq_true (by first | (with_reducible assumption) | assumption)) (Nat.le_trans (Nat.mul_le_mul_right _ (of_decide_eq_true (by first | (with_reducible assumption) | assumption) : (l0.length : Int).toNat ≤ 35184372088832)) (by omega)) (Below.refl _ _) (Nat.le_refl _) ?_
                     intro v130 w37 ho38 hb hg_ hnew_
                     clear hg_ hnew_
                     (first | rw [← Ny129.out] at ho38 | (simp only [Int.reduceToNat] at ho38; rw [← Ny129.out] at ho38))
                     have n0_ := Aside0.mk (Kd.R_elder' (by (with_reducible repeat (first | apply q2a | apply q2n | apply q2d)); exact HO121.out) (Kd.R_base ho38) hb)
                     have n1_ := Aside0.mk (Kd.R_elder' (by (with_reducible repeat (first | apply q2a | apply q2n | apply q2d)); exact HO124.out) (Kd.R_base ho38) hb)
                     have n2_ := Aside0.mk (Kd.R_lower (Kd.R_new' (Kd.R_new' ho38 (Kd.R_lt (by (with_reducible repeat (first | apply q2a | apply q2n | apply q2d)); exact HO121.out))) (Kd.R_lt (by (with_reducible repeat (first | apply q2a | apply q2n | apply q2d)); exact HO124.out))) (below_size (by repeat (first | (with_reducible first | exact HB.out | apply q2l | apply q2w | apply q2e | refine below_set ?_ GE114.out | refine below_set ?_ GE125.out) | exact HB.out))))
                     have n3_ := Aside0.mk (blk_below (g := gb114) (o := .cells #[.int .i64 0, .int .i64 0, .slice none 0 0, .slice none 0 0] 28 (0, 0)) (by (with_reducible repeat (first | refine q2N ?_ _ | refine q2D ?_ | refine q2A ?_ _)); exact BK114.out) hb)
                     have n4_ := Aside0.mk (blk_below (g := gb125) (o := .cells #[.int .i64 0, .int .i64 0, .slice Ao31 t122.length co31, .slice none 0 0] 28 (0, 0)) (by (with_reducible repeat (first | refine q2N ?_ _ | refine q2D ?_ | refine q2A ?_ _)); exact BK125.out) hb)
                     have n5_ := Aside0.mk (below_step (by repeat (first | (with_reducible first | exact HB.out | apply q2l | apply q2w | apply q2e | refine below_set ?_ GE114.out | refine below_set ?_ GE125.out) | exact HB.out)) hb)
                     clear HO121
                     clear HO124
                     clear BK114
                     clear BK125
                     clear HB
                     have HO121 := n0_
                     have HO124 := n1_
                     have HO131 := n2_
                     have BK114 := n3_
                     have BK125 := n4_
                     have HB := n5_
                     clear n0_ n1_ n2_ n3_ n4_ n5_
                     clear hb ho38
                     refine hK.out _ _ trivial (fun hHeld => ?_)
                     clear hK K
                     refine norm_ (a' := ?_) ?_ ?_
                     rotate_left
                     ·show Act.put _ (some 55) _ = _
                      simp only [Act.put, List.setIfInBounds_toArray, List.set_cons_zero, List.set_cons_succ, i64_w, i32_w]
                      rfl
                     exact norm_ (by first | (simp only [putAll, Act.put, List.setIfInBounds_toArray, List.set_cons_zero, List.set_cons_succ]; done) | (simp only [putAll, Act.put, List.setIfInBounds_toArray, List.set_cons_zero, List.set_cons_succ]; rfl)) (hJ3 (v130) _ ⟨(by (with_reducible repeat (first | apply q2a | apply q2n | apply q2d)); exact HO121.out), (by (with_reducible repeat (first | apply q2a | apply q2n | apply q2d)); exact HO124.out), (by (with_reducible repeat (first | apply q2a | apply q2n | apply q2d)); exact Kd.R_mono HO131.out (fun _ hk => ⟨hk.1.2, hk.2⟩)), (by (with_reducible repeat (first | refine q2N ?_ _ | refine q2D ?_ | refine q2A ?_ _)); exact BK114.out), (by (with_reducible repeat (first | refine q2N ?_ _ | refine q2D ?_ | refine q2A ?_ _)); exact BK125.out), (by repeat (first | (with_reducible first | exact HB.out | apply q2l | apply q2w | apply q2e | refine below_set ?_ GE114.out | refine below_set ?_ GE125.out) | exact HB.out))⟩)
                    ·skip
                     refine Kd.R_make_step (Kd.int .i64) _ 3 (by rfl) (N := 58) rfl 24 _ _ rfl (l1.length : Int) rfl rfl Try.underlying24 (.int .i64 0) 8 info3 rfl (by decide) (by omega) 0 (ok := fun _ => True) (okp := fun _ => True) rfl (fun _ hk => hk) trivial (of_decide_eq_true (by first | (with_reducible assumption) | assumption)) (Nat.le_trans (Nat.mul_le_mul_right _ (of_decide_eq_true (by first | (with_reducible assumption) | assumption) : (l1.length : Int).toNat ≤ 35184372088832)) (by omega)) (Below.refl _ _) (Nat.le_refl _) ?_
                     intro v133 w37 ho38 hb hg_ hnew_
                     clear hg_ hnew_
                     (first | rw [← Ny132.out] at ho38 | (simp only [Int.reduceToNat] at ho38; rw [← Ny132.out] at ho38))
                     have n0_ := Aside0.mk (Kd.R_elder' (by (with_reducible repeat (first | apply q2a | apply q2n | apply q2d)); exact HO121.out) (Kd.R_base ho38) hb)
                     have n1_ := Aside0.mk (Kd.R_elder' (by (with_reducible repeat (first | apply q2a | apply q2n | apply q2d)); exact HO124.out) (Kd.R_base ho38) hb)
                     have n2_ := Aside0.mk (Kd.R_lower (Kd.R_new' (Kd.R_new' ho38 (Kd.R_lt (by (with_reducible repeat (first | apply q2a | apply q2n | apply q2d)); exact HO121.out))) (Kd.R_lt (by (with_reducible repeat (first | apply q2a | apply q2n | apply q2d)); exact HO124.out))) (below_size (by repeat (first | (with_reducible first | exact HB.out | apply q2l | apply q2w | apply q2e | refine below_set ?_ GE114.out | refine below_set ?_ GE125.out) | exact HB.out))))
                     have n3_ := Aside0.mk (blk_below (g := gb114) (o := .cells #[.int .i64 0, .int .i64 0, .slice none 0 0, .slice none 0 0] 28 (0, 0)) (by (with_reducible repeat (first | refine q2N ?_ _ | refine q2D ?_ | refine q2A ?_ _)); exact BK114.out) hb)
                     have n4_ := Aside0.mk (blk_below (g := gb125) (o := .cells #[.int .i64 0, .int .i64 0, .slice Ao31 t122.length co31, .slice none 0 0] 28 (0, 0)) (by (with_reducible repeat (first | refine q2N ?_ _ | refine q2D ?_ | refine q2A ?_ _)); exact BK125.out) hb)
                     have n5_ := Aside0.mk (below_step (by repeat (first | (with_reducible first | exact HB.out | apply q2l | apply q2w | apply q2e | refine below_set ?_ GE114.out | refine below_set ?_ GE125.out) | exact HB.out)) hb)
                     clear HO121
                     clear HO124
                     clear BK114
                     clear BK125
                     clear HB
                     have HO121 := n0_
                     have HO124 := n1_
                     have HO134 := n2_
                     have BK114 := n3_
                     have BK125 := n4_
                     have HB := n5_
                     clear n0_ n1_ n2_ n3_ n4_ n5_
                     clear hb ho38
                     refine hK.out _ _ trivial (fun hHeld => ?_)
                     clear hK K
                     refine norm_ (a' := ?_) ?_ ?_
                     rotate_left
                     ·show Act.put _ (some 58) _ = _
                      simp only [Act.put, List.setIfInBounds_toArray, List.set_cons_zero, List.set_cons_succ, i64_w, i32_w]
                      rfl
                     exact norm_ (by first | (simp only [putAll, Act.put, List.setIfInBounds_toArray, List.set_cons_zero, List.set_cons_succ]; done) | (simp only [putAll, Act.put, List.setIfInBounds_toArray, List.set_cons_zero, List.set_cons_succ]; rfl)) (hJ6 (v133) _ ⟨(by (with_reducible repeat (first | apply q2a | apply q2n | apply q2d)); exact HO121.out), (by (with_reducible repeat (first | apply q2a | apply q2n | apply q2d)); exact HO124.out), (by (with_reducible repeat (first | apply q2a | apply q2n | apply q2d)); exact Kd.R_mono HO134.out (fun _ hk => ⟨hk.1.2, hk.2⟩)), (by (with_reducible repeat (first | refine q2N ?_ _ | refine q2D ?_ | refine q2A ?_ _)); exact BK114.out), (by (with_reducible repeat (first | refine q2N ?_ _ | refine q2D ?_ | refine q2A ?_ _)); exact BK125.out), (by repeat (first | (with_reducible first | exact HB.out | apply q2l | apply q2w | apply q2e | refine below_set ?_ GE114.out | refine below_set ?_ GE125.out) | exact HB.out))⟩)
                   ·skip
                    rintro v133 w39 ⟨h0_, h1_, h2_, h3_, h4_, h5_⟩
                    have n0_ : Aside0 (Kd.R (Kd.int .i64) 3 w39 w.heap.size (fun k_ => some k_ ≠ (.slice Ao31 t122.length co31 : Value).ownBlock ∧ some k_ ≠ (v133 : Value).ownBlock) (.slice Ao29 y119.length co29) y119) := ⟨h0_⟩
                    have n1_ : Aside0 (Kd.R (Kd.int .i64) 3 w39 w.heap.size (fun k_ => some k_ ≠ (.slice Ao29 y119.length co29 : Value).ownBlock ∧ some k_ ≠ (v133 : Value).ownBlock) (.slice Ao31 t122.length co31) t122) := ⟨h1_⟩
                    have n2_ : Aside0 (Kd.R (Kd.int .i64) 3 w39 w.heap.size (fun k_ => some k_ ≠ (.slice Ao29 y119.length co29 : Value).ownBlock ∧ some k_ ≠ (.slice Ao31 t122.length co31 : Value).ownBlock) v133 y132) := ⟨h2_⟩
                    have n3_ : Aside0 (w39.heap[gb114]? = some (.cells #[.int .i64 0, .int .i64 0, .slice none 0 0, .slice none 0 0] 28 (0, 0))) := ⟨h3_⟩
                    have n4_ : Aside0 (w39.heap[gb125]? = some (.cells #[.int .i64 0, .int .i64 0, .slice Ao31 t122.length co31, .slice none 0 0] 28 (0, 0))) := ⟨h4_⟩
                    have n5_ : Aside0 (Below w.heap.size w w39) := ⟨h5_⟩
                    clear HO121
                    clear HO124
                    clear BK114
                    clear BK125
                    clear HB
                    clear h0_ h1_ h2_ h3_ h4_ h5_
                    have HO121 := n0_
                    have HO124 := n1_
                    have HO134 := n2_
                    have BK114 := n3_
                    have BK125 := n4_
                    have HB := n5_
                    clear n0_ n1_ n2_ n3_ n4_ n5_
                    have hHeld := trivial
                    refine norm_ (a' := ?_) ?_ ?_
                    rotate_left
                    ·simp only [putAll, Act.put, List.setIfInBounds_toArray, List.set_cons_zero, List.set_cons_succ]
                     rfl
                    refine two_ (i := 0) (j := 3) (Ni := some 52) (Nj := some 55) #[true, true, true, false, true, true, true, false, false, false] b2A3 rfl rfl rfl rfl (two_of HT_.out (by kernel_rfl)) (by decide) (by decide) (fun K hK => ?_) (fun K hK => ?_)
                    ·skip
                     refine Kd.R_lit_step (Kd.int .i64) _ 3 ?hg (N := 52) ?hd (xs := ([] : List Int)) (inner := []) (ok := fun _ => True) (okp := fun _ => True) ?hr ?hp (fun _ hk => hk) trivial (Below.refl _ _) (Nat.le_refl _) (by simp) ?_; (case hd => rfl); (case hg => rfl); (case hr => first | (go_simp; done) | (go_simp; rfl)); (case hp => exact (Reps.none _ _))
                     intro v127 w40 ho41 hb hg_ hnew_
                     clear hg_ hnew_
                     (first | rw [← Ny126.out] at ho41 | (simp only [Int.reduceToNat] at ho41; rw [← Ny126.out] at ho41))
                     have n0_ := Aside0.mk (Kd.R_elder' (by (with_reducible repeat (first | apply q2a | apply q2n | apply q2d)); exact HO121.out) (Kd.R_base ho41) hb)
                     have n1_ := Aside0.mk (Kd.R_elder' (by (with_reducible repeat (first | apply q2a | apply q2n | apply q2d)); exact HO124.out) (Kd.R_base ho41) hb)
                     have n2_ := Aside0.mk (Kd.R_elder' (by (with_reducible repeat (first | apply q2a | apply q2n | apply q2d)); exact HO134.out) (Kd.R_base ho41) hb)
                     have n3_ := Aside0.mk (Kd.R_lower (Kd.R_new' (Kd.R_new' (Kd.R_new' ho41 (Kd.R_lt (by (with_reducible repeat (first | apply q2a | apply q2n | apply q2d)); exact HO121.out))) (Kd.R_lt (by (with_reducible repeat (first | apply q2a | apply q2n | apply q2d)); exact HO124.out))) (Kd.R_lt (by (with_reducible repeat (first | apply q2a | apply q2n | apply q2d)); exact HO134.out))) (below_size (by repeat (first | (with_reducible first | exact HB.out | apply q2l | apply q2w | apply q2e | refine below_set ?_ GE114.out | refine below_set ?_ GE125.out) | exact HB.out))))
                     have n4_ := Aside0.mk (blk_below (g := gb114) (o := .cells #[.int .i64 0, .int .i64 0, .slice none 0 0, .slice none 0 0] 28 (0, 0)) (by (with_reducible repeat (first | refine q2N ?_ _ | refine q2D ?_ | refine q2A ?_ _)); exact BK114.out) hb)
                     have n5_ := Aside0.mk (blk_below (g := gb125) (o := .cells #[.int .i64 0, .int .i64 0, .slice Ao31 t122.length co31, .slice none 0 0] 28 (0, 0)) (by (with_reducible repeat (first | refine q2N ?_ _ | refine q2D ?_ | refine q2A ?_ _)); exact BK125.out) hb)
                     have n6_ := Aside0.mk (below_step (by repeat (first | (with_reducible first | exact HB.out | apply q2l | apply q2w | apply q2e | refine below_set ?_ GE114.out | refine below_set ?_ GE125.out) | exact HB.out)) hb)
                     clear HO121
                     clear HO124
                     clear HO134
                     clear BK114
                     clear BK125
                     clear HB
                     have HO121 := n0_
                     have HO124 := n1_
                     have HO134 := n2_
                     have HO128 := n3_
                     have BK114 := n4_
                     have BK125 := n5_
                     have HB := n6_
                     clear n0_ n1_ n2_ n3_ n4_ n5_ n6_
                     clear hb ho41
                     refine hK.out _ _ trivial (fun hHeld => ?_)
                     clear hK K
                     refine norm_ (a' := ?_) ?_ ?_
                     rotate_left
                     ·show Act.put _ (some 52) _ = _
                      simp only [Act.put, List.setIfInBounds_toArray, List.set_cons_zero, List.set_cons_succ, i64_w, i32_w]
                      rfl
                     refine pure_ (i := 7) (N := some 7) (v := ?_) (a' := ?_) b2A2 rfl rfl (any_of HT_.out (by kernel_rfl)) (fun _ _ _ h => h) (Or.inl ⟨by rfl, ?_⟩) ?_ ?_
                     rotate_left
                     ·intro w'
                      go_simp
                      with_reducible rfl
                     rotate_left
                     ·simp only [Act.put, List.setIfInBounds_toArray, List.set_cons_zero, List.set_cons_succ, i64_w, i32_w]
                      rfl
                     exact norm_ (by first | (simp only [putAll, Act.put, List.setIfInBounds_toArray, List.set_cons_zero, List.set_cons_succ]; done) | (simp only [putAll, Act.put, List.setIfInBounds_toArray, List.set_cons_zero, List.set_cons_succ]; rfl)) (hJ0_6 (v127, v133) _ ⟨(by (with_reducible repeat (first | apply q2a | apply q2n | apply q2d)); exact Kd.R_mono HO121.out (fun _ hk => ⟨hk.1.1, ⟨hk.2, hk.1.2⟩⟩)), (by (with_reducible repeat (first | apply q2a | apply q2n | apply q2d)); exact Kd.R_mono HO124.out (fun _ hk => ⟨hk.1.1, ⟨hk.2, hk.1.2⟩⟩)), (by (with_reducible repeat (first | apply q2a | apply q2n | apply q2d)); exact Kd.R_mono HO128.out (fun _ hk => ⟨hk.1.1.2, ⟨hk.1.2, hk.2⟩⟩)), (by (with_reducible repeat (first | apply q2a | apply q2n | apply q2d)); exact Kd.R_mono HO134.out (fun _ hk => ⟨hk.1.1, ⟨hk.1.2, hk.2⟩⟩)), (by (with_reducible repeat (first | refine q2N ?_ _ | refine q2D ?_ | refine q2A ?_ _)); exact BK114.out), (by (with_reducible repeat (first | refine q2N ?_ _ | refine q2D ?_ | refine q2A ?_ _)); exact BK125.out), (by repeat (first | (with_reducible first | exact HB.out | apply q2l | apply q2w | apply q2e | refine below_set ?_ GE114.out | refine below_set ?_ GE125.out) | exact HB.out))⟩)
                    ·skip
                     refine Kd.R_make_step (Kd.int .i64) _ 3 (by rfl) (N := 55) rfl 24 _ _ rfl (l0.length : Int) rfl rfl Try.underlying24 (.int .i64 0) 8 info3 rfl (by decide) (by omega) 0 (ok := fun _ => True) (okp := fun _ => True) rfl (fun _ hk => hk) trivial (of_decide_eq_true (by first | (with_reducible assumption) | assumption)) (Nat.le_trans (Nat.mul_le_mul_right _ (of_decide_eq_true (by first | (with_reducible assumption) | assumption) : (l0.length : Int).toNat ≤ 35184372088832)) (by omega)) (Below.refl _ _) (Nat.le_refl _) ?_
                     intro v130 w40 ho41 hb hg_ hnew_
                     clear hg_ hnew_
                     (first | rw [← Ny129.out] at ho41 | (simp only [Int.reduceToNat] at ho41; rw [← Ny129.out] at ho41))
                     have n0_ := Aside0.mk (Kd.R_elder' (by (with_reducible repeat (first | apply q2a | apply q2n | apply q2d)); exact HO121.out) (Kd.R_base ho41) hb)
                     have n1_ := Aside0.mk (Kd.R_elder' (by (with_reducible repeat (first | apply q2a | apply q2n | apply q2d)); exact HO124.out) (Kd.R_base ho41) hb)
                     have n2_ := Aside0.mk (Kd.R_elder' (by (with_reducible repeat (first | apply q2a | apply q2n | apply q2d)); exact HO134.out) (Kd.R_base ho41) hb)
                     have n3_ := Aside0.mk (Kd.R_lower (Kd.R_new' (Kd.R_new' (Kd.R_new' ho41 (Kd.R_lt (by (with_reducible repeat (first | apply q2a | apply q2n | apply q2d)); exact HO121.out))) (Kd.R_lt (by (with_reducible repeat (first | apply q2a | apply q2n | apply q2d)); exact HO124.out))) (Kd.R_lt (by (with_reducible repeat (first | apply q2a | apply q2n | apply q2d)); exact HO134.out))) (below_size (by repeat (first | (with_reducible first | exact HB.out | apply q2l | apply q2w | apply q2e | refine below_set ?_ GE114.out | refine below_set ?_ GE125.out) | exact HB.out))))
                     have n4_ := Aside0.mk (blk_below (g := gb114) (o := .cells #[.int .i64 0, .int .i64 0, .slice none 0 0, .slice none 0 0] 28 (0, 0)) (by (with_reducible repeat (first | refine q2N ?_ _ | refine q2D ?_ | refine q2A ?_ _)); exact BK114.out) hb)
                     have n5_ := Aside0.mk (blk_below (g := gb125) (o := .cells #[.int .i64 0, .int .i64 0, .slice Ao31 t122.length co31, .slice none 0 0] 28 (0, 0)) (by (with_reducible repeat (first | refine q2N ?_ _ | refine q2D ?_ | refine q2A ?_ _)); exact BK125.out) hb)
                     have n6_ := Aside0.mk (below_step (by repeat (first | (with_reducible first | exact HB.out | apply q2l | apply q2w | apply q2e | refine below_set ?_ GE114.out | refine below_set ?_ GE125.out) | exact HB.out)) hb)
                     clear HO121
                     clear HO124
                     clear HO134
                     clear BK114
                     clear BK125
                     clear HB
                     have HO121 := n0_
                     have HO124 := n1_
                     have HO134 := n2_
                     have HO131 := n3_
                     have BK114 := n4_
                     have BK125 := n5_
                     have HB := n6_
                     clear n0_ n1_ n2_ n3_ n4_ n5_ n6_
                     clear hb ho41
                     refine hK.out _ _ trivial (fun hHeld => ?_)
                     clear hK K
                     refine norm_ (a' := ?_) ?_ ?_
                     rotate_left
                     ·show Act.put _ (some 55) _ = _
                      simp only [Act.put, List.setIfInBounds_toArray, List.set_cons_zero, List.set_cons_succ, i64_w, i32_w]
                      rfl
                     exact norm_ (by first | (simp only [putAll, Act.put, List.setIfInBounds_toArray, List.set_cons_zero, List.set_cons_succ]; done) | (simp only [putAll, Act.put, List.setIfInBounds_toArray, List.set_cons_zero, List.set_cons_succ]; rfl)) (hJ3_6 (v130, v133) _ ⟨(by (with_reducible repeat (first | apply q2a | apply q2n | apply q2d)); exact Kd.R_mono HO121.out (fun _ hk => ⟨hk.1.1, ⟨hk.2, hk.1.2⟩⟩)), (by (with_reducible repeat (first | apply q2a | apply q2n | apply q2d)); exact Kd.R_mono HO124.out (fun _ hk => ⟨hk.1.1, ⟨hk.2, hk.1.2⟩⟩)), (by (with_reducible repeat (first | apply q2a | apply q2n | apply q2d)); exact Kd.R_mono HO131.out (fun _ hk => ⟨hk.1.1.2, ⟨hk.1.2, hk.2⟩⟩)), (by (with_reducible repeat (first | apply q2a | apply q2n | apply q2d)); exact Kd.R_mono HO134.out (fun _ hk => ⟨hk.1.1, ⟨hk.1.2, hk.2⟩⟩)), (by (with_reducible repeat (first | refine q2N ?_ _ | refine q2D ?_ | refine q2A ?_ _)); exact BK114.out), (by (with_reducible repeat (first | refine q2N ?_ _ | refine q2D ?_ | refine q2A ?_ _)); exact BK125.out), (by repeat (first | (with_reducible first | exact HB.out | apply q2l | apply q2w | apply q2e | refine below_set ?_ GE114.out | refine below_set ?_ GE125.out) | exact HB.out))⟩)
                  ·skip
                   rintro v130 w39 ⟨h0_, h1_, h2_, h3_, h4_, h5_⟩
                   have n0_ : Aside0 (Kd.R (Kd.int .i64) 3 w39 w.heap.size (fun k_ => some k_ ≠ (.slice Ao31 t122.length co31 : Value).ownBlock ∧ some k_ ≠ (v130 : Value).ownBlock) (.slice Ao29 y119.length co29) y119) := ⟨h0_⟩
                   have n1_ : Aside0 (Kd.R (Kd.int .i64) 3 w39 w.heap.size (fun k_ => some k_ ≠ (.slice Ao29 y119.length co29 : Value).ownBlock ∧ some k_ ≠ (v130 : Value).ownBlock) (.slice Ao31 t122.length co31) t122) := ⟨h1_⟩
                   have n2_ : Aside0 (Kd.R (Kd.int .i64) 3 w39 w.heap.size (fun k_ => some k_ ≠ (.slice Ao29 y119.length co29 : Value).ownBlock ∧ some k_ ≠ (.slice Ao31 t122.length co31 : Value).ownBlock) v130 y129) := ⟨h2_⟩
                   have n3_ : Aside0 (w39.heap[gb114]? = some (.cells #[.int .i64 0, .int .i64 0, .slice none 0 0, .slice none 0 0] 28 (0, 0))) := ⟨h3_⟩
                   have n4_ : Aside0 (w39.heap[gb125]? = some (.cells #[.int .i64 0, .int .i64 0, .slice Ao31 t122.length co31, .slice none 0 0] 28 (0, 0))) := ⟨h4_⟩
                   have n5_ : Aside0 (Below w.heap.size w w39) := ⟨h5_⟩
                   clear HO121
                   clear HO124
                   clear BK114
                   clear BK125
                   clear HB
                   clear h0_ h1_ h2_ h3_ h4_ h5_
                   have HO121 := n0_
                   have HO124 := n1_
                   have HO131 := n2_
                   have BK114 := n3_
                   have BK125 := n4_
                   have HB := n5_
                   clear n0_ n1_ n2_ n3_ n4_ n5_
                   have hHeld := trivial
                   refine norm_ (a' := ?_) ?_ ?_
                   rotate_left
                   ·simp only [putAll, Act.put, List.setIfInBounds_toArray, List.set_cons_zero, List.set_cons_succ]
                    rfl
                   refine two_ (i := 0) (j := 6) (Ni := some 52) (Nj := some 58) #[true, true, true, true, true, true, false, false, false, false] b2A3 rfl rfl rfl rfl (two_of HT_.out (by kernel_rfl)) (by decide) (by decide) (fun K hK => ?_) (fun K hK => ?_)
                   ·skip
                    refine Kd.R_lit_step (Kd.int .i64) _ 3 ?hg (N := 52) ?hd (xs := ([] : List Int)) (inner := []) (ok := fun _ => True) (okp := fun _ => True) ?hr ?hp (fun _ hk => hk) trivial (Below.refl _ _) (Nat.le_refl _) (by simp) ?_; (case hd => rfl); (case hg => rfl); (case hr => first | (go_simp; done) | (go_simp; rfl)); (case hp => exact (Reps.none _ _))
                    intro v127 w40 ho41 hb hg_ hnew_
                    clear hg_ hnew_
                    (first | rw [← Ny126.out] at ho41 | (simp only [Int.reduceToNat] at ho41; rw [← Ny126.out] at ho41))
                    have n0_ := Aside0.mk (Kd.R_elder' (by (with_reducible repeat (first | apply q2a | apply q2n | apply q2d)); exact HO121.out) (Kd.R_base ho41) hb)
                    have n1_ := Aside0.mk (Kd.R_elder' (by (with_reducible repeat (first | apply q2a | apply q2n | apply q2d)); exact HO124.out) (Kd.R_base ho41) hb)
                    have n2_ := Aside0.mk (Kd.R_elder' (by (with_reducible repeat (first | apply q2a | apply q2n | apply q2d)); exact HO131.out) (Kd.R_base ho41) hb)
                    have n3_ := Aside0.mk (Kd.R_lower (Kd.R_new' (Kd.R_new' (Kd.R_new' ho41 (Kd.R_lt (by (with_reducible repeat (first | apply q2a | apply q2n | apply q2d)); exact HO121.out))) (Kd.R_lt (by (with_reducible repeat (first | apply q2a | apply q2n | apply q2d)); exact HO124.out))) (Kd.R_lt (by (with_reducible repeat (first | apply q2a | apply q2n | apply q2d)); exact HO131.out))) (below_size (by repeat (first | (with_reducible first | exact HB.out | apply q2l | apply q2w | apply q2e | refine below_set ?_ GE114.out | refine below_set ?_ GE125.out) | exact HB.out))))
                    have n4_ := Aside0.mk (blk_below (g := gb114) (o := .cells #[.int .i64 0, .int .i64 0, .slice none 0 0, .slice none 0 0] 28 (0, 0)) (by (with_reducible repeat (first | refine q2N ?_ _ | refine q2D ?_ | refine q2A ?_ _)); exact BK114.out) hb)
                    have n5_ := Aside0.mk (blk_below (g := gb125) (o := .cells #[.int .i64 0, .int .i64 0, .slice Ao31 t122.length co31, .slice none 0 0] 28 (0, 0)) (by (with_reducible repeat (first | refine q2N ?_ _ | refine q2D ?_ | refine q2A ?_ _)); exact BK125.out) hb)
                    have n6_ := Aside0.mk (below_step (by repeat (first | (with_reducible first | exact HB.out | apply q2l | apply q2w | apply q2e | refine below_set ?_ GE114.out | refine below_set ?_ GE125.out) | exact HB.out)) hb)
                    clear HO121
                    clear HO124
                    clear HO131
                    clear BK114
                    clear BK125
                    clear HB
                    have HO121 := n0_
                    have HO124 := n1_
                    have HO131 := n2_
                    have HO128 := n3_
                    have BK114 := n4_
                    have BK125 := n5_
                    have HB := n6_
                    clear n0_ n1_ n2_ n3_ n4_ n5_ n6_
                    clear hb ho41
                    refine hK.out _ _ trivial (fun hHeld => ?_)
                    clear hK K
                    refine norm_ (a' := ?_) ?_ ?_
                    rotate_left
                    ·show Act.put _ (some 52) _ = _
                     simp only [Act.put, List.setIfInBounds_toArray, List.set_cons_zero, List.set_cons_succ, i64_w, i32_w]
                     rfl
                    refine pure_ (i := 7) (N := some 7) (v := ?_) (a' := ?_) b2A19 rfl rfl (any_of HT_.out (by kernel_rfl)) (fun _ _ _ h => h) (Or.inl ⟨by rfl, ?_⟩) ?_ ?_
                    rotate_left
                    ·intro w'
                     go_simp
                     with_reducible rfl
                    rotate_left
                    ·simp only [Act.put, List.setIfInBounds_toArray, List.set_cons_zero, List.set_cons_succ, i64_w, i32_w]
                     rfl
                    refine pure_ (i := 8) (N := some 8) (v := ?_) (a' := ?_) b2A1 rfl rfl (any_of HT_.out (by kernel_rfl)) (fun _ _ _ h => h) (Or.inl ⟨by rfl, ?_⟩) ?_ ?_
                    rotate_left
                    ·intro w'
                     go_simp
                     with_reducible rfl
                    rotate_left
                    ·simp only [Act.put, List.setIfInBounds_toArray, List.set_cons_zero, List.set_cons_succ, i64_w, i32_w]
                     rfl
                    exact norm_ (by first | (simp only [putAll, Act.put, List.setIfInBounds_toArray, List.set_cons_zero, List.set_cons_succ]; done) | (simp only [putAll, Act.put, List.setIfInBounds_toArray, List.set_cons_zero, List.set_cons_succ]; rfl)) (hJ0_3 (v127, v130) _ ⟨(by (with_reducible repeat (first | apply q2a | apply q2n | apply q2d)); exact Kd.R_mono HO121.out (fun _ hk => ⟨hk.1.1, ⟨hk.2, hk.1.2⟩⟩)), (by (with_reducible repeat (first | apply q2a | apply q2n | apply q2d)); exact Kd.R_mono HO124.out (fun _ hk => ⟨hk.1.1, ⟨hk.2, hk.1.2⟩⟩)), (by (with_reducible repeat (first | apply q2a | apply q2n | apply q2d)); exact Kd.R_mono HO128.out (fun _ hk => ⟨hk.1.1.2, ⟨hk.1.2, hk.2⟩⟩)), (by (with_reducible repeat (first | apply q2a | apply q2n | apply q2d)); exact Kd.R_mono HO131.out (fun _ hk => ⟨hk.1.1, ⟨hk.1.2, hk.2⟩⟩)), (by (with_reducible repeat (first | refine q2N ?_ _ | refine q2D ?_ | refine q2A ?_ _)); exact BK114.out), (by (with_reducible repeat (first | refine q2N ?_ _ | refine q2D ?_ | refine q2A ?_ _)); exact BK125.out), (by repeat (first | (with_reducible first | exact HB.out | apply q2l | apply q2w | apply q2e | refine below_set ?_ GE114.out | refine below_set ?_ GE125.out) | exact HB.out))⟩)
                   ·skip
                    refine Kd.R_make_step (Kd.int .i64) _ 3 (by rfl) (N := 58) rfl 24 _ _ rfl (l1.length : Int) rfl rfl Try.underlying24 (.int .i64 0) 8 info3 rfl (by decide) (by omega) 0 (ok := fun _ => True) (okp := fun _ => True) rfl (fun _ hk => hk) trivial (of_decide_eq_true (by first | (with_reducible assumption) | assumption)) (Nat.le_trans (Nat.mul_le_mul_right _ (of_decide_eq_true (by first | (with_reducible assumption) | assumption) : (l1.length : Int).toNat ≤ 35184372088832)) (by omega)) (Below.refl _ _) (Nat.le_refl _) ?_
                    intro v133 w40 ho41 hb hg_ hnew_
                    clear hg_ hnew_
                    (first | rw [← Ny132.out] at ho41 | (simp only [Int.reduceToNat] at ho41; rw [← Ny132.out] at ho41))
                    have n0_ := Aside0.mk (Kd.R_elder' (by (with_reducible repeat (first | apply q2a | apply q2n | apply q2d)); exact HO121.out) (Kd.R_base ho41) hb)
                    have n1_ := Aside0.mk (Kd.R_elder' (by (with_reducible repeat (first | apply q2a | apply q2n | apply q2d)); exact HO124.out) (Kd.R_base ho41) hb)
                    have n2_ := Aside0.mk (Kd.R_elder' (by (with_reducible repeat (first | apply q2a | apply q2n | apply q2d)); exact HO131.out) (Kd.R_base ho41) hb)
                    have n3_ := Aside0.mk (Kd.R_lower (Kd.R_new' (Kd.R_new' (Kd.R_new' ho41 (Kd.R_lt (by (with_reducible repeat (first | apply q2a | apply q2n | apply q2d)); exact HO121.out))) (Kd.R_lt (by (with_reducible repeat (first | apply q2a | apply q2n | apply q2d)); exact HO124.out))) (Kd.R_lt (by (with_reducible repeat (first | apply q2a | apply q2n | apply q2d)); exact HO131.out))) (below_size (by repeat (first | (with_reducible first | exact HB.out | apply q2l | apply q2w | apply q2e | refine below_set ?_ GE114.out | refine below_set ?_ GE125.out) | exact HB.out))))
                    have n4_ := Aside0.mk (blk_below (g := gb114) (o := .cells #[.int .i64 0, .int .i64 0, .slice none 0 0, .slice none 0 0] 28 (0, 0)) (by (with_reducible repeat (first | refine q2N ?_ _ | refine q2D ?_ | refine q2A ?_ _)); exact BK114.out) hb)
                    have n5_ := Aside0.mk (blk_below (g := gb125) (o := .cells #[.int .i64 0, .int .i64 0, .slice Ao31 t122.length co31, .slice none 0 0] 28 (0, 0)) (by (with_reducible repeat (first | refine q2N ?_ _ | refine q2D ?_ | refine q2A ?_ _)); exact BK125.out) hb)
                    have n6_ := Aside0.mk (below_step (by repeat (first | (with_reducible first | exact HB.out | apply q2l | apply q2w | apply q2e | refine below_set ?_ GE114.out | refine below_set ?_ GE125.out) | exact HB.out)) hb)
                    clear HO121
                    clear HO124
                    clear HO131
                    clear BK114
                    clear BK125
                    clear HB
                    have HO121 := n0_
                    have HO124 := n1_
                    have HO131 := n2_
                    have HO134 := n3_
                    have BK114 := n4_
                    have BK125 := n5_
                    have HB := n6_
                    clear n0_ n1_ n2_ n3_ n4_ n5_ n6_
                    clear hb ho41
                    refine hK.out _ _ trivial (fun hHeld => ?_)
                    clear hK K
                    refine norm_ (a' := ?_) ?_ ?_
                    rotate_left
                    ·show Act.put _ (some 58) _ = _
                     simp only [Act.put, List.setIfInBounds_toArray, List.set_cons_zero, List.set_cons_succ, i64_w, i32_w]
                     rfl
                    exact norm_ (by first | (simp only [putAll, Act.put, List.setIfInBounds_toArray, List.set_cons_zero, List.set_cons_succ]; done) | (simp only [putAll, Act.put, List.setIfInBounds_toArray, List.set_cons_zero, List.set_cons_succ]; rfl)) (hJ3_6 (v130, v133) _ ⟨(by (with_reducible repeat (first | apply q2a | apply q2n | apply q2d)); exact Kd.R_mono HO121.out (fun _ hk => ⟨hk.1.1, ⟨hk.1.2, hk.2⟩⟩)), (by (with_reducible repeat (first | apply q2a | apply q2n | apply q2d)); exact Kd.R_mono HO124.out (fun _ hk => ⟨hk.1.1, ⟨hk.1.2, hk.2⟩⟩)), (by (with_reducible repeat (first | apply q2a | apply q2n | apply q2d)); exact Kd.R_mono HO131.out (fun _ hk => ⟨hk.1.1, ⟨hk.1.2, hk.2⟩⟩)), (by (with_reducible repeat (first | apply q2a | apply q2n | apply q2d)); exact Kd.R_mono HO134.out (fun _ hk => ⟨hk.1.1.2, ⟨hk.1.2, hk.2⟩⟩)), (by (with_reducible repeat (first | refine q2N ?_ _ | refine q2D ?_ | refine q2A ?_ _)); exact BK114.out), (by (with_reducible repeat (first | refine q2N ?_ _ | refine q2D ?_ | refine q2A ?_ _)); exact BK125.out), (by repeat (first | (with_reducible first | exact HB.out | apply q2l | apply q2w | apply q2e | refine below_set ?_ GE114.out | refine below_set ?_ GE125.out) | exact HB.out))⟩)
                 ·skip
                  rintro v127 w39 ⟨h0_, h1_, h2_, h3_, h4_, h5_⟩
                  have n0_ : Aside0 (Kd.R (Kd.int .i64) 3 w39 w.heap.size (fun k_ => some k_ ≠ (.slice Ao31 t122.length co31 : Value).ownBlock ∧ some k_ ≠ (v127 : Value).ownBlock) (.slice Ao29 y119.length co29) y119) := ⟨h0_⟩
                  have n1_ : Aside0 (Kd.R (Kd.int .i64) 3 w39 w.heap.size (fun k_ => some k_ ≠ (.slice Ao29 y119.length co29 : Value).ownBlock ∧ some k_ ≠ (v127 : Value).ownBlock) (.slice Ao31 t122.length co31) t122) := ⟨h1_⟩
                  have n2_ : Aside0 (Kd.R (Kd.int .i64) 3 w39 w.heap.size (fun k_ => some k_ ≠ (.slice Ao29 y119.length co29 : Value).ownBlock ∧ some k_ ≠ (.slice Ao31 t122.length co31 : Value).ownBlock) v127 y126) := ⟨h2_⟩
                  have n3_ : Aside0 (w39.heap[gb114]? = some (.cells #[.int .i64 0, .int .i64 0, .slice none 0 0, .slice none 0 0] 28 (0, 0))) := ⟨h3_⟩
                  have n4_ : Aside0 (w39.heap[gb125]? = some (.cells #[.int .i64 0, .int .i64 0, .slice Ao31 t122.length co31, .slice none 0 0] 28 (0, 0))) := ⟨h4_⟩
                  have n5_ : Aside0 (Below w.heap.size w w39) := ⟨h5_⟩
                  clear HO121
                  clear HO124
                  clear BK114
                  clear BK125
                  clear HB
                  clear h0_ h1_ h2_ h3_ h4_ h5_
                  have HO121 := n0_
                  have HO124 := n1_
                  have HO128 := n2_
                  have BK114 := n3_
                  have BK125 := n4_
                  have HB := n5_
                  clear n0_ n1_ n2_ n3_ n4_ n5_
                  have hHeld := trivial
                  refine norm_ (a' := ?_) ?_ ?_
                  rotate_left
                  ·simp only [putAll, Act.put, List.setIfInBounds_toArray, List.set_cons_zero, List.set_cons_succ]
                   rfl
                  refine two_ (i := 3) (j := 6) (Ni := some 55) (Nj := some 58) b2A19 b2A2 rfl rfl rfl rfl (two_of HT_.out (by kernel_rfl)) (by decide) (by decide) (fun K hK => ?_) (fun K hK => ?_)
                  ·skip
                   refine Kd.R_make_step (Kd.int .i64) _ 3 (by rfl) (N := 55) rfl 24 _ _ rfl (l0.length : Int) rfl rfl Try.underlying24 (.int .i64 0) 8 info3 rfl (by decide) (by omega) 0 (ok := fun _ => True) (okp := fun _ => True) rfl (fun _ hk => hk) trivial (of_decide_eq_true (by first | (with_reducible assumption) | assumption)) (Nat.le_trans (Nat.mul_le_mul_right _ (of_decide_eq_true (by first | (with_reducible assumption) | assumption) : (l0.length : Int).toNat ≤ 35184372088832)) (by omega)) (Below.refl _ _) (Nat.le_refl _) ?_
                   intro v130 w40 ho41 hb hg_ hnew_
                   clear hg_ hnew_
                   (first | rw [← Ny129.out] at ho41 | (simp only [Int.reduceToNat] at ho41; rw [← Ny129.out] at ho41))
                   have n0_ := Aside0.mk (Kd.R_elder' (by (with_reducible repeat (first | apply q2a | apply q2n | apply q2d)); exact HO121.out) (Kd.R_base ho41) hb)
                   have n1_ := Aside0.mk (Kd.R_elder' (by (with_reducible repeat (first | apply q2a | apply q2n | apply q2d)); exact HO124.out) (Kd.R_base ho41) hb)
                   have n2_ := Aside0.mk (Kd.R_elder' (by (with_reducible repeat (first | apply q2a | apply q2n | apply q2d)); exact HO128.out) (Kd.R_base ho41) hb)
                   have n3_ := Aside0.mk (Kd.R_lower (Kd.R_new' (Kd.R_new' (Kd.R_new' ho41 (Kd.R_lt (by (with_reducible repeat (first | apply q2a | apply q2n | apply q2d)); exact HO121.out))) (Kd.R_lt (by (with_reducible repeat (first | apply q2a | apply q2n | apply q2d)); exact HO124.out))) (Kd.R_lt (by (with_reducible repeat (first | apply q2a | apply q2n | apply q2d)); exact HO128.out))) (below_size (by repeat (first | (with_reducible first | exact HB.out | apply q2l | apply q2w | apply q2e | refine below_set ?_ GE114.out | refine below_set ?_ GE125.out) | exact HB.out))))
                   have n4_ := Aside0.mk (blk_below (g := gb114) (o := .cells #[.int .i64 0, .int .i64 0, .slice none 0 0, .slice none 0 0] 28 (0, 0)) (by (with_reducible repeat (first | refine q2N ?_ _ | refine q2D ?_ | refine q2A ?_ _)); exact BK114.out) hb)
                   have n5_ := Aside0.mk (blk_below (g := gb125) (o := .cells #[.int .i64 0, .int .i64 0, .slice Ao31 t122.length co31, .slice none 0 0] 28 (0, 0)) (by (with_reducible repeat (first | refine q2N ?_ _ | refine q2D ?_ | refine q2A ?_ _)); exact BK125.out) hb)
                   have n6_ := Aside0.mk (below_step (by repeat (first | (with_reducible first | exact HB.out | apply q2l | apply q2w | apply q2e | refine below_set ?_ GE114.out | refine below_set ?_ GE125.out) | exact HB.out)) hb)
                   clear HO121
                   clear HO124
                   clear HO128
                   clear BK114
                   clear BK125
                   clear HB
                   have HO121 := n0_
                   have HO124 := n1_
                   have HO128 := n2_
                   have HO131 := n3_
                   have BK114 := n4_
                   have BK125 := n5_
                   have HB := n6_
                   clear n0_ n1_ n2_ n3_ n4_ n5_ n6_
                   clear hb ho41
                   refine hK.out _ _ trivial (fun hHeld => ?_)
                   clear hK K
                   refine norm_ (a' := ?_) ?_ ?_
                   rotate_left
                   ·show Act.put _ (some 55) _ = _
                    simp only [Act.put, List.setIfInBounds_toArray, List.set_cons_zero, List.set_cons_succ, i64_w, i32_w]
                    rfl
                   refine pure_ (i := 8) (N := some 8) (v := ?_) (a' := ?_) b2A1 rfl rfl (any_of HT_.out (by kernel_rfl)) (fun _ _ _ h => h) (Or.inl ⟨by rfl, ?_⟩) ?_ ?_
                   rotate_left
                   ·intro w'
                    go_simp
                    with_reducible rfl
                   rotate_left
                   ·simp only [Act.put, List.setIfInBounds_toArray, List.set_cons_zero, List.set_cons_succ, i64_w, i32_w]
                    rfl
                   exact norm_ (by first | (simp only [putAll, Act.put, List.setIfInBounds_toArray, List.set_cons_zero, List.set_cons_succ]; done) | (simp only [putAll, Act.put, List.setIfInBounds_toArray, List.set_cons_zero, List.set_cons_succ]; rfl)) (hJ0_3 (v127, v130) _ ⟨(by (with_reducible repeat (first | apply q2a | apply q2n | apply q2d)); exact Kd.R_mono HO121.out (fun _ hk => ⟨hk.1.1, ⟨hk.1.2, hk.2⟩⟩)), (by (with_reducible repeat (first | apply q2a | apply q2n | apply q2d)); exact Kd.R_mono HO124.out (fun _ hk => ⟨hk.1.1, ⟨hk.1.2, hk.2⟩⟩)), (by (with_reducible repeat (first | apply q2a | apply q2n | apply q2d)); exact Kd.R_mono HO128.out (fun _ hk => ⟨hk.1.1, ⟨hk.1.2, hk.2⟩⟩)), (by (with_reducible repeat (first | apply q2a | apply q2n | apply q2d)); exact Kd.R_mono HO131.out (fun _ hk => ⟨hk.1.1.2, ⟨hk.1.2, hk.2⟩⟩)), (by (with_reducible repeat (first | refine q2N ?_ _ | refine q2D ?_ | refine q2A ?_ _)); exact BK114.out), (by (with_reducible repeat (first | refine q2N ?_ _ | refine q2D ?_ | refine q2A ?_ _)); exact BK125.out), (by repeat (first | (with_reducible first | exact HB.out | apply q2l | apply q2w | apply q2e | refine below_set ?_ GE114.out | refine below_set ?_ GE125.out) | exact HB.out))⟩)
                  ·skip
                   refine Kd.R_make_step (Kd.int .i64) _ 3 (by rfl) (N := 58) rfl 24 _ _ rfl (l1.length : Int) rfl rfl Try.underlying24 (.int .i64 0) 8 info3 rfl (by decide) (by omega) 0 (ok := fun _ => True) (okp := fun _ => True) rfl (fun _ hk => hk) trivial (of_decide_eq_true (by first | (with_reducible assumption) | assumption)) (Nat.le_trans (Nat.mul_le_mul_right _ (of_decide_eq_true (by first | (with_reducible assumption) | assumption) : (l1.length : Int).toNat ≤ 35184372088832)) (by omega)) (Below.refl _ _) (Nat.le_refl _) ?_
                   intro v133 w40 ho41 hb hg_ hnew_
                   clear hg_ hnew_
                   (first | rw [← Ny132.out] at ho41 | (simp only [Int.reduceToNat] at ho41; rw [← Ny132.out] at ho41))
                   have n0_ := Aside0.mk (Kd.R_elder' (by (with_reducible repeat (first | apply q2a | apply q2n | apply q2d)); exact HO121.out) (Kd.R_base ho41) hb)
                   have n1_ := Aside0.mk (Kd.R_elder' (by (with_reducible repeat (first | apply q2a | apply q2n | apply q2d)); exact HO124.out) (Kd.R_base ho41) hb)
                   have n2_ := Aside0.mk (Kd.R_elder' (by (with_reducible repeat (first | apply q2a | apply q2n | apply q2d)); exact HO128.out) (Kd.R_base ho41) hb)
                   have n3_ := Aside0.mk (Kd.R_lower (Kd.R_new' (Kd.R_new' (Kd.R_new' ho41 (Kd.R_lt (by (with_reducible repeat (first | apply q2a | apply q2n | apply q2d)); exact HO121.out))) (Kd.R_lt (by (with_reducible repeat (first | apply q2a | apply q2n | apply q2d)); exact HO124.out))) (Kd.R_lt (by (with_reducible repeat (first | apply q2a | apply q2n | apply q2d)); exact HO128.out))) (below_size (by repeat (first | (with_reducible first | exact HB.out | apply q2l | apply q2w | apply q2e | refine below_set ?_ GE114.out | refine below_set ?_ GE125.out) | exact HB.out))))
                   have n4_ := Aside0.mk (blk_below (g := gb114) (o := .cells #[.int .i64 0, .int .i64 0, .slice none 0 0, .slice none 0 0] 28 (0, 0)) (by (with_reducible repeat (first | refine q2N ?_ _ | refine q2D ?_ | refine q2A ?_ _)); exact BK114.out) hb)
                   have n5_ := Aside0.mk (blk_below (g := gb125) (o := .cells #[.int .i64 0, .int .i64 0, .slice Ao31 t122.length co31, .slice none 0 0] 28 (0, 0)) (by (with_reducible repeat (first | refine q2N ?_ _ | refine q2D ?_ | refine q2A ?_ _)); exact BK125.out) hb)
                   have n6_ := Aside0.mk (below_step (by repeat (first | (with_reducible first | exact HB.out | apply q2l | apply q2w | apply q2e | refine below_set ?_ GE114.out | refine below_set ?_ GE125.out) | exact HB.out)) hb)
                   clear HO121
                   clear HO124
                   clear HO128
                   clear BK114
                   clear BK125
                   clear HB
                   have HO121 := n0_
                   have HO124 := n1_
                   have HO128 := n2_
                   have HO134 := n3_
                   have BK114 := n4_
                   have BK125 := n5_
                   have HB := n6_
                   clear n0_ n1_ n2_ n3_ n4_ n5_ n6_
                   clear hb ho41
                   refine hK.out _ _ trivial (fun hHeld => ?_)
                   clear hK K
                   refine norm_ (a' := ?_) ?_ ?_
                   rotate_left
                   ·show Act.put _ (some 58) _ = _
                    simp only [Act.put, List.setIfInBounds_toArray, List.set_cons_zero, List.set_cons_succ, i64_w, i32_w]
                    rfl
                   exact norm_ (by first | (simp only [putAll, Act.put, List.setIfInBounds_toArray, List.set_cons_zero, List.set_cons_succ]; done) | (simp only [putAll, Act.put, List.setIfInBounds_toArray, List.set_cons_zero, List.set_cons_succ]; rfl)) (hJ0_6 (v127, v133) _ ⟨(by (with_reducible repeat (first | apply q2a | apply q2n | apply q2d)); exact Kd.R_mono HO121.out (fun _ hk => ⟨hk.1.1, ⟨hk.1.2, hk.2⟩⟩)), (by (with_reducible repeat (first | apply q2a | apply q2n | apply q2d)); exact Kd.R_mono HO124.out (fun _ hk => ⟨hk.1.1, ⟨hk.1.2, hk.2⟩⟩)), (by (with_reducible repeat (first | apply q2a | apply q2n | apply q2d)); exact Kd.R_mono HO128.out (fun _ hk => ⟨hk.1.1, ⟨hk.1.2, hk.2⟩⟩)), (by (with_reducible repeat (first | apply q2a | apply q2n | apply q2d)); exact Kd.R_mono HO134.out (fun _ hk => ⟨hk.1.1.2, ⟨hk.1.2, hk.2⟩⟩)), (by (with_reducible repeat (first | refine q2N ?_ _ | refine q2D ?_ | refine q2A ?_ _)); exact BK114.out), (by (with_reducible repeat (first | refine q2N ?_ _ | refine q2D ?_ | refine q2A ?_ _)); exact BK125.out), (by repeat (first | (with_reducible first | exact HB.out | apply q2l | apply q2w | apply q2e | refine below_set ?_ GE114.out | refine below_set ?_ GE125.out) | exact HB.out))⟩)
                ·skip
                 rintro ⟨v130, v133⟩ w41 ⟨h0_, h1_, h2_, h3_, h4_, h5_, h6_⟩
                 have n0_ : Aside0 (Kd.R (Kd.int .i64) 3 w41 w.heap.size (fun k_ => some k_ ≠ (.slice Ao31 t122.length co31 : Value).ownBlock ∧ some k_ ≠ (v130 : Value).ownBlock ∧ some k_ ≠ (v133 : Value).ownBlock) (.slice Ao29 y119.length co29) y119) := ⟨h0_⟩
                 have n1_ : Aside0 (Kd.R (Kd.int .i64) 3 w41 w.heap.size (fun k_ => some k_ ≠ (.slice Ao29 y119.length co29 : Value).ownBlock ∧ some k_ ≠ (v130 : Value).ownBlock ∧ some k_ ≠ (v133 : Value).ownBlock) (.slice Ao31 t122.length co31) t122) := ⟨h1_⟩
                 have n2_ : Aside0 (Kd.R (Kd.int .i64) 3 w41 w.heap.size (fun k_ => some k_ ≠ (.slice Ao29 y119.length co29 : Value).ownBlock ∧ some k_ ≠ (.slice Ao31 t122.length co31 : Value).ownBlock ∧ some k_ ≠ (v133 : Value).ownBlock) v130 y129) := ⟨h2_⟩
                 have n3_ : Aside0 (Kd.R (Kd.int .i64) 3 w41 w.heap.size (fun k_ => some k_ ≠ (.slice Ao29 y119.length co29 : Value).ownBlock ∧ some k_ ≠ (.slice Ao31 t122.length co31 : Value).ownBlock ∧ some k_ ≠ (v130 : Value).ownBlock) v133 y132) := ⟨h3_⟩
                 have n4_ : Aside0 (w41.heap[gb114]? = some (.cells #[.int .i64 0, .int .i64 0, .slice none 0 0, .slice none 0 0] 28 (0, 0))) := ⟨h4_⟩
                 have n5_ : Aside0 (w41.heap[gb125]? = some (.cells #[.int .i64 0, .int .i64 0, .slice Ao31 t122.length co31, .slice none 0 0] 28 (0, 0))) := ⟨h5_⟩
                 have n6_ : Aside0 (Below w.heap.size w w41) := ⟨h6_⟩
                 clear HO121
                 clear HO124
                 clear BK114
                 clear BK125
                 clear HB
                 clear h0_ h1_ h2_ h3_ h4_ h5_ h6_
                 have HO121 := n0_
                 have HO124 := n1_
                 have HO131 := n2_
                 have HO134 := n3_
                 have BK114 := n4_
                 have BK125 := n5_
                 have HB := n6_
                 clear n0_ n1_ n2_ n3_ n4_ n5_ n6_
                 have hHeld := trivial
                 refine norm_ (a' := ?_) ?_ ?_
                 rotate_left
                 ·simp only [putAll, Act.put, List.setIfInBounds_toArray, List.set_cons_zero, List.set_cons_succ]
                  rfl
                 refine one_ (i := 0) (N := some 52) #[true, true, true, true, true, true, true, false, false, false] rfl rfl (one_of HT_.out (by kernel_rfl)) (by decide) (fun K hK => ?_)
                 refine Kd.R_lit_step (Kd.int .i64) _ 3 ?hg (N := 52) ?hd (xs := ([] : List Int)) (inner := []) (ok := fun _ => True) (okp := fun _ => True) ?hr ?hp (fun _ hk => hk) trivial (Below.refl _ _) (Nat.le_refl _) (by simp) ?_; (case hd => rfl); (case hg => rfl); (case hr => first | (go_simp; done) | (go_simp; rfl)); (case hp => exact (Reps.none _ _))
                 intro v127 w42 ho43 hb hg_ hnew_
                 clear hg_ hnew_
                 (first | rw [← Ny126.out] at ho43 | (simp only [Int.reduceToNat] at ho43; rw [← Ny126.out] at ho43))
                 have n0_ := Aside0.mk (Kd.R_elder' (by (with_reducible repeat (first | apply q2a | apply q2n | apply q2d)); exact HO121.out) (Kd.R_base ho43) hb)
                 have n1_ := Aside0.mk (Kd.R_elder' (by (with_reducible repeat (first | apply q2a | apply q2n | apply q2d)); exact HO124.out) (Kd.R_base ho43) hb)
                 have n2_ := Aside0.mk (Kd.R_elder' (by (with_reducible repeat (first | apply q2a | apply q2n | apply q2d)); exact HO131.out) (Kd.R_base ho43) hb)
                 have n3_ := Aside0.mk (Kd.R_elder' (by (with_reducible repeat (first | apply q2a | apply q2n | apply q2d)); exact HO134.out) (Kd.R_base ho43) hb)
                 have n4_ := Aside0.mk (Kd.R_lower (Kd.R_new' (Kd.R_new' (Kd.R_new' (Kd.R_new' ho43 (Kd.R_lt (by (with_reducible repeat (first | apply q2a | apply q2n | apply q2d)); exact HO121.out))) (Kd.R_lt (by (with_reducible repeat (first | apply q2a | apply q2n | apply q2d)); exact HO124.out))) (Kd.R_lt (by (with_reducible repeat (first | apply q2a | apply q2n | apply q2d)); exact HO131.out))) (Kd.R_lt (by (with_reducible repeat (first | apply q2a | apply q2n | apply q2d)); exact HO134.out))) (below_size (by repeat (first | (with_reducible first | exact HB.out | apply q2l | apply q2w | apply q2e | refine below_set ?_ GE114.out | refine below_set ?_ GE125.out) | exact HB.out))))
                 have n5_ := Aside0.mk (blk_below (g := gb114) (o := .cells #[.int .i64 0, .int .i64 0, .slice none 0 0, .slice none 0 0] 28 (0, 0)) (by (with_reducible repeat (first | refine q2N ?_ _ | refine q2D ?_ | refine q2A ?_ _)); exact BK114.out) hb)
                 have n6_ := Aside0.mk (blk_below (g := gb125) (o := .cells #[.int .i64 0, .int .i64 0, .slice Ao31 t122.length co31, .slice none 0 0] 28 (0, 0)) (by (with_reducible repeat (first | refine q2N ?_ _ | refine q2D ?_ | refine q2A ?_ _)); exact BK125.out) hb)
                 have n7_ := Aside0.mk (below_step (by repeat (first | (with_reducible first | exact HB.out | apply q2l | apply q2w | apply q2e | refine below_set ?_ GE114.out | refine below_set ?_ GE125.out) | exact HB.out)) hb)
                 clear HO121
                 clear HO124
                 clear HO131
                 clear HO134
                 clear BK114
                 clear BK125
                 clear HB
                 have HO121 := n0_
                 have HO124 := n1_
                 have HO131 := n2_
                 have HO134 := n3_
                 have HO128 := n4_
                 have BK114 := n5_
                 have BK125 := n6_
                 have HB := n7_
                 clear n0_ n1_ n2_ n3_ n4_ n5_ n6_ n7_
                 clear hb ho43
                 refine hK.out _ _ trivial (fun hHeld => ?_)
                 clear hK K
                 refine norm_ (a' := ?_) ?_ ?_
                 rotate_left
                 ·show Act.put _ (some 52) _ = _
                  simp only [Act.put, List.setIfInBounds_toArray, List.set_cons_zero, List.set_cons_succ, i64_w, i32_w]
                  rfl
                 refine pure_ (i := 7) (N := some 7) (v := ?_) (a' := ?_) b2A20 rfl rfl (any_of HT_.out (by kernel_rfl)) (fun _ _ _ h => h) (Or.inl ⟨by rfl, ?_⟩) ?_ ?_
                 rotate_left
                 ·intro w'
                  go_simp
                  with_reducible rfl
                 rotate_left
                 ·simp only [Act.put, List.setIfInBounds_toArray, List.set_cons_zero, List.set_cons_succ, i64_w, i32_w]
                  rfl
                 refine pure_ (i := 8) (N := some 8) (v := ?_) (a' := ?_) b2A0 rfl rfl (any_of HT_.out (by kernel_rfl)) (fun _ _ _ h => h) (Or.inl ⟨by rfl, ?_⟩) ?_ ?_
                 rotate_left
                 ·intro w'
                  go_simp
                  with_reducible rfl
                 rotate_left
                 ·simp only [Act.put, List.setIfInBounds_toArray, List.set_cons_zero, List.set_cons_succ, i64_w, i32_w]
                  rfl
                 exact norm_ (by first | (simp only [putAll, Act.put, List.setIfInBounds_toArray, List.set_cons_zero, List.set_cons_succ]; done) | (simp only [putAll, Act.put, List.setIfInBounds_toArray, List.set_cons_zero, List.set_cons_succ]; rfl)) (hJ0_3_6 (v127, v130, v133) _ ⟨(by (with_reducible repeat (first | apply q2a | apply q2n | apply q2d)); exact Kd.R_mono HO121.out (fun _ hk => ⟨hk.1.1, ⟨hk.2, ⟨hk.1.2.1, hk.1.2.2⟩⟩⟩)), (by (with_reducible repeat (first | apply q2a | apply q2n | apply q2d)); exact Kd.R_mono HO124.out (fun _ hk => ⟨hk.1.1, ⟨hk.2, ⟨hk.1.2.1, hk.1.2.2⟩⟩⟩)), (by (with_reducible repeat (first | apply q2a | apply q2n | apply q2d)); exact Kd.R_mono HO128.out (fun _ hk => ⟨hk.1.1.1.2, ⟨hk.1.1.2, ⟨hk.1.2, hk.2⟩⟩⟩)), (by (with_reducible repeat (first | apply q2a | apply q2n | apply q2d)); exact Kd.R_mono HO131.out (fun _ hk => ⟨hk.1.1, ⟨hk.1.2.1, ⟨hk.2, hk.1.2.2⟩⟩⟩)), (by (with_reducible repeat (first | apply q2a | apply q2n | apply q2d)); exact Kd.R_mono HO134.out (fun _ hk => ⟨hk.1.1, ⟨hk.1.2.1, ⟨hk.2, hk.1.2.2⟩⟩⟩)), (by (with_reducible repeat (first | refine q2N ?_ _ | refine q2D ?_ | refine q2A ?_ _)); exact BK114.out), (by (with_reducible repeat (first | refine q2N ?_ _ | refine q2D ?_ | refine q2A ?_ _)); exact BK125.out), (by repeat (first | (with_reducible first | exact HB.out | apply q2l | apply q2w | apply q2e | refine below_set ?_ GE114.out | refine below_set ?_ GE125.out) | exact HB.out))⟩)
               ·skip
                rintro ⟨v127, v133⟩ w41 ⟨h0_, h1_, h2_, h3_, h4_, h5_, h6_⟩
                have n0_ : Aside0 (Kd.R (Kd.int .i64) 3 w41 w.heap.size (fun k_ => some k_ ≠ (.slice Ao31 t122.length co31 : Value).ownBlock ∧ some k_ ≠ (v127 : Value).ownBlock ∧ some k_ ≠ (v133 : Value).ownBlock) (.slice Ao29 y119.length co29) y119) := ⟨h0_⟩
                have n1_ : Aside0 (Kd.R (Kd.int .i64) 3 w41 w.heap.size (fun k_ => some k_ ≠ (.slice Ao29 y119.length co29 : Value).ownBlock ∧ some k_ ≠ (v127 : Value).ownBlock ∧ some k_ ≠ (v133 : Value).ownBlock) (.slice Ao31 t122.length co31) t122) := ⟨h1_⟩
                have n2_ : Aside0 (Kd.R (Kd.int .i64) 3 w41 w.heap.size (fun k_ => some k_ ≠ (.slice Ao29 y119.length co29 : Value).ownBlock ∧ some k_ ≠ (.slice Ao31 t122.length co31 : Value).ownBlock ∧ some k_ ≠ (v133 : Value).ownBlock) v127 y126) := ⟨h2_⟩
                have n3_ : Aside0 (Kd.R (Kd.int .i64) 3 w41 w.heap.size (fun k_ => some k_ ≠ (.slice Ao29 y119.length co29 : Value).ownBlock ∧ some k_ ≠ (.slice Ao31 t122.length co31 : Value).ownBlock ∧ some k_ ≠ (v127 : Value).ownBlock) v133 y132) := ⟨h3_⟩
                have n4_ : Aside0 (w41.heap[gb114]? = some (.cells #[.int .i64 0, .int .i64 0, .slice none 0 0, .slice none 0 0] 28 (0, 0))) := ⟨h4_⟩
                have n5_ : Aside0 (w41.heap[gb125]? = some (.cells #[.int .i64 0, .int .i64 0, .slice Ao31 t122.length co31, .slice none 0 0] 28 (0, 0))) := ⟨h5_⟩
                have n6_ : Aside0 (Below w.heap.size w w41) := ⟨h6_⟩
                clear HO121
                clear HO124
                clear BK114
                clear BK125
                clear HB
                clear h0_ h1_ h2_ h3_ h4_ h5_ h6_
                have HO121 := n0_
                have HO124 := n1_
                have HO128 := n2_
                have HO134 := n3_
                have BK114 := n4_
                have BK125 := n5_
                have HB := n6_
                clear n0_ n1_ n2_ n3_ n4_ n5_ n6_
                have hHeld := trivial
                refine norm_ (a' := ?_) ?_ ?_
                rotate_left
                ·simp only [putAll, Act.put, List.setIfInBounds_toArray, List.set_cons_zero, List.set_cons_succ]
                 rfl
                refine one_ (i := 3) (N := some 55) b2A20 rfl rfl (one_of HT_.out (by kernel_rfl)) (by decide) (fun K hK => ?_)
                refine Kd.R_make_step (Kd.int .i64) _ 3 (by rfl) (N := 55) rfl 24 _ _ rfl (l0.length : Int) rfl rfl Try.underlying24 (.int .i64 0) 8 info3 rfl (by decide) (by omega) 0 (ok := fun _ => True) (okp := fun _ => True) rfl (fun _ hk => hk) trivial (of_decide_eq_true (by first | (with_reducible assumption) | assumption)) (Nat.le_trans (Nat.mul_le_mul_right _ (of_decide_eq_true (by first | (with_reducible assumption) | assumption) : (l0.length : Int).toNat ≤ 35184372088832)) (by omega)) (Below.refl _ _) (Nat.le_refl _) ?_
                intro v130 w42 ho43 hb hg_ hnew_
                clear hg_ hnew_
                (first | rw [← Ny129.out] at ho43 | (simp only [Int.reduceToNat] at ho43; rw [← Ny129.out] at ho43))
                have n0_ := Aside0.mk (Kd.R_elder' (by (with_reducible repeat (first | apply q2a | apply q2n | apply q2d)); exact HO121.out) (Kd.R_base ho43) hb)
                have n1_ := Aside0.mk (Kd.R_elder' (by (with_reducible repeat (first | apply q2a | apply q2n | apply q2d)); exact HO124.out) (Kd.R_base ho43) hb)
                have n2_ := Aside0.mk (Kd.R_elder' (by (with_reducible repeat (first | apply q2a | apply q2n | apply q2d)); exact HO128.out) (Kd.R_base ho43) hb)
                have n3_ := Aside0.mk (Kd.R_elder' (by (with_reducible repeat (first | apply q2a | apply q2n | apply q2d)); exact HO134.out) (Kd.R_base ho43) hb)
                have n4_ := Aside0.mk (Kd.R_lower (Kd.R_new' (Kd.R_new' (Kd.R_new' (Kd.R_new' ho43 (Kd.R_lt (by (with_reducible repeat (first | apply q2a | apply q2n | apply q2d)); exact HO121.out))) (Kd.R_lt (by (with_reducible repeat (first | apply q2a | apply q2n | apply q2d)); exact HO124.out))) (Kd.R_lt (by (with_reducible repeat (first | apply q2a | apply q2n | apply q2d)); exact HO128.out))) (Kd.R_lt (by (with_reducible repeat (first | apply q2a | apply q2n | apply q2d)); exact HO134.out))) (below_size (by repeat (first | (with_reducible first | exact HB.out | apply q2l | apply q2w | apply q2e | refine below_set ?_ GE114.out | refine below_set ?_ GE125.out) | exact HB.out))))
                have n5_ := Aside0.mk (blk_below (g := gb114) (o := .cells #[.int .i64 0, .int .i64 0, .slice none 0 0, .slice none 0 0] 28 (0, 0)) (by (with_reducible repeat (first | refine q2N ?_ _ | refine q2D ?_ | refine q2A ?_ _)); exact BK114.out) hb)
                have n6_ := Aside0.mk (blk_below (g := gb125) (o := .cells #[.int .i64 0, .int .i64 0, .slice Ao31 t122.length co31, .slice none 0 0] 28 (0, 0)) (by (with_reducible repeat (first | refine q2N ?_ _ | refine q2D ?_ | refine q2A ?_ _)); exact BK125.out) hb)
                have n7_ := Aside0.mk (below_step (by repeat (first | (with_reducible first | exact HB.out | apply q2l | apply q2w | apply q2e | refine below_set ?_ GE114.out | refine below_set ?_ GE125.out) | exact HB.out)) hb)
                clear HO121
                clear HO124
                clear HO128
                clear HO134
                clear BK114
                clear BK125
                clear HB
                have HO121 := n0_
                have HO124 := n1_
                have HO128 := n2_
                have HO134 := n3_
                have HO131 := n4_
                have BK114 := n5_
                have BK125 := n6_
                have HB := n7_
                clear n0_ n1_ n2_ n3_ n4_ n5_ n6_ n7_
                clear hb ho43
                refine hK.out _ _ trivial (fun hHeld => ?_)
                clear hK K
                refine norm_ (a' := ?_) ?_ ?_
                rotate_left
                ·show Act.put _ (some 55) _ = _
                 simp only [Act.put, List.setIfInBounds_toArray, List.set_cons_zero, List.set_cons_succ, i64_w, i32_w]
                 rfl
                refine pure_ (i := 8) (N := some 8) (v := ?_) (a' := ?_) b2A0 rfl rfl (any_of HT_.out (by kernel_rfl)) (fun _ _ _ h => h) (Or.inl ⟨by rfl, ?_⟩) ?_ ?_
                rotate_left
                ·intro w'
                 go_simp
                 with_reducible rfl
                rotate_left
                ·simp only [Act.put, List.setIfInBounds_toArray, List.set_cons_zero, List.set_cons_succ, i64_w, i32_w]
                 rfl
                exact norm_ (by first | (simp only [putAll, Act.put, List.setIfInBounds_toArray, List.set_cons_zero, List.set_cons_succ]; done) | (simp only [putAll, Act.put, List.setIfInBounds_toArray, List.set_cons_zero, List.set_cons_succ]; rfl)) (hJ0_3_6 (v127, v130, v133) _ ⟨(by (with_reducible repeat (first | apply q2a | apply q2n | apply q2d)); exact Kd.R_mono HO121.out (fun _ hk => ⟨hk.1.1, ⟨hk.1.2.1, ⟨hk.2, hk.1.2.2⟩⟩⟩)), (by (with_reducible repeat (first | apply q2a | apply q2n | apply q2d)); exact Kd.R_mono HO124.out (fun _ hk => ⟨hk.1.1, ⟨hk.1.2.1, ⟨hk.2, hk.1.2.2⟩⟩⟩)), (by (with_reducible repeat (first | apply q2a | apply q2n | apply q2d)); exact Kd.R_mono HO128.out (fun _ hk => ⟨hk.1.1, ⟨hk.1.2.1, ⟨hk.2, hk.1.2.2⟩⟩⟩)), (by (with_reducible repeat (first | apply q2a | apply q2n | apply q2d)); exact Kd.R_mono HO131.out (fun _ hk => ⟨hk.1.1.1.2, ⟨hk.1.1.2, ⟨hk.1.2, hk.2⟩⟩⟩)), (by (with_reducible repeat (first | apply q2a | apply q2n | apply q2d)); exact Kd.R_mono HO134.out (fun _ hk => ⟨hk.1.1, ⟨hk.1.2.1, ⟨hk.1.2.2, hk.2⟩⟩⟩)), (by (with_reducible repeat (first | refine q2N ?_ _ | refine q2D ?_ | refine q2A ?_ _)); exact BK114.out), (by (with_reducible repeat (first | refine q2N ?_ _ | refine q2D ?_ | refine q2A ?_ _)); exact BK125.out), (by repeat (first | (with_reducible first | exact HB.out | apply q2l | apply q2w | apply q2e | refine below_set ?_ GE114.out | refine below_set ?_ GE125.out) | exact HB.out))⟩)
              ·skip
               rintro ⟨v127, v130⟩ w41 ⟨h0_, h1_, h2_, h3_, h4_, h5_, h6_⟩
               have n0_ : Aside0 (Kd.R (Kd.int .i64) 3 w41 w.heap.size (fun k_ => some k_ ≠ (.slice Ao31 t122.length co31 : Value).ownBlock ∧ some k_ ≠ (v127 : Value).ownBlock ∧ some k_ ≠ (v130 : Value).ownBlock) (.slice Ao29 y119.length co29) y119) := ⟨h0_⟩
               have n1_ : Aside0 (Kd.R (Kd.int .i64) 3 w41 w.heap.size (fun k_ => some k_ ≠ (.slice Ao29 y119.length co29 : Value).ownBlock ∧ some k_ ≠ (v127 : Value).ownBlock ∧ some k_ ≠ (v130 : Value).ownBlock) (.slice Ao31 t122.length co31) t122) := ⟨h1_⟩
               have n2_ : Aside0 (Kd.R (Kd.int .i64) 3 w41 w.heap.size (fun k_ => some k_ ≠ (.slice Ao29 y119.length co29 : Value).ownBlock ∧ some k_ ≠ (.slice Ao31 t122.length co31 : Value).ownBlock ∧ some k_ ≠ (v130 : Value).ownBlock) v127 y126) := ⟨h2_⟩
               have n3_ : Aside0 (Kd.R (Kd.int .i64) 3 w41 w.heap.size (fun k_ => some k_ ≠ (.slice Ao29 y119.length co29 : Value).ownBlock ∧ some k_ ≠ (.slice Ao31 t122.length co31 : Value).ownBlock ∧ some k_ ≠ (v127 : Value).ownBlock) v130 y129) := ⟨h3_⟩
               have n4_ : Aside0 (w41.heap[gb114]? = some (.cells #[.int .i64 0, .int .i64 0, .slice none 0 0, .slice none 0 0] 28 (0, 0))) := ⟨h4_⟩
               have n5_ : Aside0 (w41.heap[gb125]? = some (.cells #[.int .i64 0, .int .i64 0, .slice Ao31 t122.length co31, .slice none 0 0] 28 (0, 0))) := ⟨h5_⟩
               have n6_ : Aside0 (Below w.heap.size w w41) := ⟨h6_⟩
               clear HO121
               clear HO124
               clear BK114
               clear BK125
               clear HB
               clear h0_ h1_ h2_ h3_ h4_ h5_ h6_
               have HO121 := n0_
               have HO124 := n1_
               have HO128 := n2_
               have HO131 := n3_
               have BK114 := n4_
               have BK125 := n5_
               have HB := n6_
               clear n0_ n1_ n2_ n3_ n4_ n5_ n6_
               have hHeld := trivial
               refine norm_ (a' := ?_) ?_ ?_
               rotate_left
               ·simp only [putAll, Act.put, List.setIfInBounds_toArray, List.set_cons_zero, List.set_cons_succ]
                rfl
               refine one_ (i := 6) (N := some 58) b2A0 rfl rfl (one_of HT_.out (by kernel_rfl)) (by decide) (fun K hK => ?_)
               refine Kd.R_make_step (Kd.int .i64) _ 3 (by rfl) (N := 58) rfl 24 _ _ rfl (l1.length : Int) rfl rfl Try.underlying24 (.int .i64 0) 8 info3 rfl (by decide) (by omega) 0 (ok := fun _ => True) (okp := fun _ => True) rfl (fun _ hk => hk) trivial (of_decide_eq_true (by first | (with_reducible assumption) | assumption)) (Nat.le_trans (Nat.mul_le_mul_right _ (of_decide_eq_true (by first | (with_reducible assumption) | assumption) : (l1.length : Int).toNat ≤ 35184372088832)) (by omega)) (Below.refl _ _) (Nat.le_refl _) ?_
               intro v133 w42 ho43 hb hg_ hnew_
               clear hg_ hnew_
               (first | rw [← Ny132.out] at ho43 | (simp only [Int.reduceToNat] at ho43; rw [← Ny132.out] at ho43))
               have n0_ := Aside0.mk (Kd.R_elder' (by (with_reducible repeat (first | apply q2a | apply q2n | apply q2d)); exact HO121.out) (Kd.R_base ho43) hb)
               have n1_ := Aside0.mk (Kd.R_elder' (by (with_reducible repeat (first | apply q2a | apply q2n | apply q2d)); exact HO124.out) (Kd.R_base ho43) hb)
               have n2_ := Aside0.mk (Kd.R_elder' (by (with_reducible repeat (first | apply q2a | apply q2n | apply q2d)); exact HO128.out) (Kd.R_base ho43) hb)
               have n3_ := Aside0.mk (Kd.R_elder' (by (with_reducible repeat (first | apply q2a | apply q2n | apply q2d)); exact HO131.out) (Kd.R_base ho43) hb)
               have n4_ := Aside0.mk (Kd.R_lower (Kd.R_new' (Kd.R_new' (Kd.R_new' (Kd.R_new' ho43 (Kd.R_lt (by (with_reducible repeat (first | apply q2a | apply q2n | apply q2d)); exact HO121.out))) (Kd.R_lt (by (with_reducible repeat (first | apply q2a | apply q2n | apply q2d)); exact HO124.out))) (Kd.R_lt (by (with_reducible repeat (first | apply q2a | apply q2n | apply q2d)); exact HO128.out))) (Kd.R_lt (by (with_reducible repeat (first | apply q2a | apply q2n | apply q2d)); exact HO131.out))) (below_size (by repeat (first | (with_reducible first | exact HB.out | apply q2l | apply q2w | apply q2e | refine below_set ?_ GE114.out | refine below_set ?_ GE125.out) | exact HB.out))))
               have n5_ := Aside0.mk (blk_below (g := gb114) (o := .cells #[.int .i64 0, .int .i64 0, .slice none 0 0, .slice none 0 0] 28 (0, 0)) (by (with_reducible repeat (first | refine q2N ?_ _ | refine q2D ?_ | refine q2A ?_ _)); exact BK114.out) hb)
               have n6_ := Aside0.mk (blk_below (g := gb125) (o := .cells #[.int .i64 0, .int .i64 0, .slice Ao31 t122.length co31, .slice none 0 0] 28 (0, 0)) (by (with_reducible repeat (first | refine q2N ?_ _ | refine q2D ?_ | refine q2A ?_ _)); exact BK125.out) hb)
               have n7_ := Aside0.mk (below_step (by repeat (first | (with_reducible first | exact HB.out | apply q2l | apply q2w | apply q2e | refine below_set ?_ GE114.out | refine below_set ?_ GE125.out) | exact HB.out)) hb)
               clear HO121
               clear HO124
               clear HO128
               clear HO131
               clear BK114
               clear BK125
               clear HB
               have HO121 := n0_
               have HO124 := n1_
               have HO128 := n2_
               have HO131 := n3_
               have HO134 := n4_
               have BK114 := n5_
               have BK125 := n6_
               have HB := n7_
               clear n0_ n1_ n2_ n3_ n4_ n5_ n6_ n7_
               clear hb ho43
               refine hK.out _ _ trivial (fun hHeld => ?_)
               clear hK K
               refine norm_ (a' := ?_) ?_ ?_
               rotate_left
               ·show Act.put _ (some 58) _ = _
                simp only [Act.put, List.setIfInBounds_toArray, List.set_cons_zero, List.set_cons_succ, i64_w, i32_w]
                rfl
               exact norm_ (by first | (simp only [putAll, Act.put, List.setIfInBounds_toArray, List.set_cons_zero, List.set_cons_succ]; done) | (simp only [putAll, Act.put, List.setIfInBounds_toArray, List.set_cons_zero, List.set_cons_succ]; rfl)) (hJ0_3_6 (v127, v130, v133) _ ⟨(by (with_reducible repeat (first | apply q2a | apply q2n | apply q2d)); exact Kd.R_mono HO121.out (fun _ hk => ⟨hk.1.1, ⟨hk.1.2.1, ⟨hk.1.2.2, hk.2⟩⟩⟩)), (by (with_reducible repeat (first | apply q2a | apply q2n | apply q2d)); exact Kd.R_mono HO124.out (fun _ hk => ⟨hk.1.1, ⟨hk.1.2.1, ⟨hk.1.2.2, hk.2⟩⟩⟩)), (by (with_reducible repeat (first | apply q2a | apply q2n | apply q2d)); exact Kd.R_mono HO128.out (fun _ hk => ⟨hk.1.1, ⟨hk.1.2.1, ⟨hk.1.2.2, hk.2⟩⟩⟩)), (by (with_reducible repeat (first | apply q2a | apply q2n | apply q2d)); exact Kd.R_mono HO131.out (fun _ hk => ⟨hk.1.1, ⟨hk.1.2.1, ⟨hk.1.2.2, hk.2⟩⟩⟩)), (by (with_reducible repeat (first | apply q2a | apply q2n | apply q2d)); exact Kd.R_mono HO134.out (fun _ hk => ⟨hk.1.1.1.2, ⟨hk.1.1.2, ⟨hk.1.2, hk.2⟩⟩⟩)), (by (with_reducible repeat (first | refine q2N ?_ _ | refine q2D ?_ | refine q2A ?_ _)); exact BK114.out), (by (with_reducible repeat (first | refine q2N ?_ _ | refine q2D ?_ | refine q2A ?_ _)); exact BK125.out), (by repeat (first | (with_reducible first | exact HB.out | apply q2l | apply q2w | apply q2e | refine below_set ?_ GE114.out | refine below_set ?_ GE125.out) | exact HB.out))⟩)
             rintro ⟨v127, v130, v133⟩ w43 ⟨h0_, h1_, h2_, h3_, h4_, h5_, h6_, h7_⟩
             have n0_ : Aside0 (Kd.R (Kd.int .i64) 3 w43 w.heap.size (fun k_ => some k_ ≠ (.slice Ao31 t122.length co31 : Value).ownBlock ∧ some k_ ≠ (v127 : Value).ownBlock ∧ some k_ ≠ (v130 : Value).ownBlock ∧ some k_ ≠ (v133 : Value).ownBlock) (.slice Ao29 y119.length co29) y119) := ⟨h0_⟩
             have n1_ : Aside0 (Kd.R (Kd.int .i64) 3 w43 w.heap.size (fun k_ => some k_ ≠ (.slice Ao29 y119.length co29 : Value).ownBlock ∧ some k_ ≠ (v127 : Value).ownBlock ∧ some k_ ≠ (v130 : Value).ownBlock ∧ some k_ ≠ (v133 : Value).ownBlock) (.slice Ao31 t122.length co31) t122) := ⟨h1_⟩
             have n2_ : Aside0 (Kd.R (Kd.int .i64) 3 w43 w.heap.size (fun k_ => some k_ ≠ (.slice Ao29 y119.length co29 : Value).ownBlock ∧ some k_ ≠ (.slice Ao31 t122.length co31 : Value).ownBlock ∧ some k_ ≠ (v130 : Value).ownBlock ∧ some k_ ≠ (v133 : Value).ownBlock) v127 y126) := ⟨h2_⟩
             have n3_ : Aside0 (Kd.R (Kd.int .i64) 3 w43 w.heap.size (fun k_ => some k_ ≠ (.slice Ao29 y119.length co29 : Value).ownBlock ∧ some k_ ≠ (.slice Ao31 t122.length co31 : Value).ownBlock ∧ some k_ ≠ (v127 : Value).ownBlock ∧ some k_ ≠ (v133 : Value).ownBlock) v130 y129) := ⟨h3_⟩
             have n4_ : Aside0 (Kd.R (Kd.int .i64) 3 w43 w.heap.size (fun k_ => some k_ ≠ (.slice Ao29 y119.length co29 : Value).ownBlock ∧ some k_ ≠ (.slice Ao31 t122.length co31 : Value).ownBlock ∧ some k_ ≠ (v127 : Value).ownBlock ∧ some k_ ≠ (v130 : Value).ownBlock) v133 y132) := ⟨h4_⟩
             have n5_ : Aside0 (w43.heap[gb114]? = some (.cells #[.int .i64 0, .int .i64 0, .slice none 0 0, .slice none 0 0] 28 (0, 0))) := ⟨h5_⟩
             have n6_ : Aside0 (w43.heap[gb125]? = some (.cells #[.int .i64 0, .int .i64 0, .slice Ao31 t122.length co31, .slice none 0 0] 28 (0, 0))) := ⟨h6_⟩
             have n7_ : Aside0 (Below w.heap.size w w43) := ⟨h7_⟩
             clear HO121
             clear HO124
             clear BK114
             clear BK125
             clear HB
             clear h0_ h1_ h2_ h3_ h4_ h5_ h6_ h7_
             have HO121 := n0_
             have HO124 := n1_
             have HO128 := n2_
             have HO131 := n3_
             have HO134 := n4_
             have BK114 := n5_
             have BK125 := n6_
             have HB := n7_
             clear n0_ n1_ n2_ n3_ n4_ n5_ n6_ n7_
             have hHeld := trivial
             refine norm_ (a' := ?_) ?_ ?_
             rotate_left
             ·simp only [putAll, Act.put, List.setIfInBounds_toArray, List.set_cons_zero, List.set_cons_succ]
              rfl
             refine pure_ (i := 9) (N := some 9) (v := ?_) (a' := ?_) #[true, true, true, true, true, true, true, true, true, true] rfl rfl (any_of HT_.out (by kernel_rfl)) (fun _ _ _ h => h) (Or.inl ⟨by rfl, ?_⟩) ?_ ?_
             rotate_left
             ·intro w'
              go_simp
              with_reducible rfl
             rotate_left
             ·simp only [Act.put, List.setIfInBounds_toArray, List.set_cons_zero, List.set_cons_succ, i64_w, i32_w]
              rfl
             refine done_ (done_of HT_.out (by kernel_rfl)) ?_
             try go_wp2
             go_loopg [7, 61] kj9 (fun kq v7 v61 w' => ∃ (x7_3 : List Int) (x61_3 : Int), v61 = .int .i64 x61_3 ∧ Aside0 (impl_SortRun.l0 kq l0 l1 x7_3 y129 y132 (l1.length : Int) x61_3 0 0 t122 = some (r1, r2, r3, r4, r5)) ∧ Aside0 (kq ≤ kj9) ∧ Aside0 (Kd.Q (Kd.int .i64) 3 w' w.heap.size (fun k_ => some k_ ≠ (v130 : Value).ownBlock ∧ some k_ ≠ (v133 : Value).ownBlock ∧ some k_ ≠ ((.slice Ao31 t122.length co31) : Value).ownBlock) v7 x7_3) ∧ Aside0 (Kd.R (Kd.int .i64) 3 w' w.heap.size (fun k_ => some k_ ≠ (v7 : Value).ownBlock ∧ some k_ ≠ (v133 : Value).ownBlock ∧ some k_ ≠ ((.slice Ao31 t122.length co31) : Value).ownBlock) v130 y129) ∧ Aside0 (Kd.R (Kd.int .i64) 3 w' w.heap.size (fun k_ => some k_ ≠ (v7 : Value).ownBlock ∧ some k_ ≠ (v130 : Value).ownBlock ∧ some k_ ≠ ((.slice Ao31 t122.length co31) : Value).ownBlock) v133 y132) ∧ Aside0 (Kd.R (Kd.int .i64) 3 w' w.heap.size (fun k_ => some k_ ≠ (v7 : Value).ownBlock ∧ some k_ ≠ (v130 : Value).ownBlock ∧ some k_ ≠ (v133 : Value).ownBlock) (.slice Ao31 t122.length co31) t122) ∧ Aside0 (w'.heap[gb114]? = some (.cells #[.int .i64 0, .int .i64 0, (.slice none 0 0), (.slice none 0 0)] 28 (0, 0))) ∧ Aside0 (w'.heap[gb125]? = some (.cells #[.int .i64 0, .int .i64 0, (.slice Ao31 t122.length co31), (.slice none 0 0)] 28 (0, 0))) ∧ Aside0 (Below w.heap.size w w'))
             case atStart => exact ⟨(y126), (0), (by first | rfl | (simp; done) | (simp [*]; done)), H', ⟨Nat.le_refl _⟩, ⟨Kd.Q_of_R (by (with_reducible repeat (first | apply q2a | apply q2n | apply q2d)); exact Kd.R_mono HO128.out (fun _ hk => ⟨hk.2.2.1, ⟨hk.2.2.2, hk.2.1⟩⟩))⟩, ⟨by (with_reducible repeat (first | apply q2a | apply q2n | apply q2d)); exact Kd.R_mono HO131.out (fun _ hk => ⟨hk.2.2.1, ⟨hk.2.2.2, hk.2.1⟩⟩)⟩, ⟨by (with_reducible repeat (first | apply q2a | apply q2n | apply q2d)); exact Kd.R_mono HO134.out (fun _ hk => ⟨hk.2.2.1, ⟨hk.2.2.2, hk.2.1⟩⟩)⟩, ⟨by (with_reducible repeat (first | apply q2a | apply q2n | apply q2d)); exact Kd.R_mono HO124.out (fun _ hk => ⟨hk.2.1, ⟨hk.2.2.1, hk.2.2.2⟩⟩)⟩, ⟨by (with_reducible repeat (first | refine q2N ?_ _ | refine q2D ?_ | refine q2A ?_ _)); exact BK114.out⟩, ⟨by (with_reducible repeat (first | refine q2N ?_ _ | refine q2D ?_ | refine q2A ?_ _)); exact BK125.out⟩, ⟨by repeat (first | (with_reducible first | exact HB.out | apply q2l | apply q2w | apply q2e | refine below_set ?_ GE114.out | refine below_set ?_ GE125.out) | exact HB.out)⟩⟩
             case round =>
              clear H'
              try clear p2
              obtain ⟨x7_3, x61_3, rfl, HA, HK3, HO_7, HO_8, HO_9, HO_126002, BK114, BK125, HB⟩ := hrel
              cases gk with
              | zero => exact absurd HA.out (by simp [impl_SortRun.l0])
              | succ k3 =>
               have H := HA.out
               clear HA
               simp only [impl_SortRun.l0] at H
               by_cases c44 : x61_3 < (l1.length : Int)
               ·rw [if_pos c44] at H
                have c44b0 : decide (x61_3 < (l1.length : Int)) = true := decide_eq_true c44
                clear c44
                by_cases c45 : x7_3.length < 17592186044416
                ·rw [if_pos c45] at H
                 have LMc45 := Aside0.mk c45
                 clear c45
                 obtain ⟨y135, hy135⟩ : ∃ y_ : List Int, y_ = (x7_3 ++ [x61_3]) := ⟨_, rfl⟩
                 replace H : (impl_SortRun.l0 k3 l0 l1 y135 y129 y132 (l1.length : Int) (wrap64 (x61_3 + 1)) 0 0 t122) = some (r1, r2, r3, r4, r5) := by first | (rw [hy135]; with_reducible exact H) | (have H2_ := (Option.bind_some _ _).symm.trans H; rw [hy135]; with_reducible exact H2_) | (have H2_ := (Option.bind_some _ _).symm.trans H; with_reducible exact H2_) | with_reducible exact H | (rw [hy135]; exact H) | exact H
                 have Ny135 := Aside0.mk hy135
                 clear hy135
                 have H' := Aside0.mk H
                 clear H
                 go_wp2_with (first | ((with_reducible refine gate_builtin (b := .append) (xs := #[.tmp 64, .tmp 66]) rfl ?_); (try (refine gate_guard (by rfl) ?_; dsimp only)); at_builtin; refine Kd.Q_append (Kd.int .i64) (w0 := w) w.heap.size rfl (.tmp 64) (.tmp 66) 24 3 (.int .i64 0) 8 rfl Try.underlying24 info3 rfl (by decide) (by omega) u7 x7_3 x61_3 [.int .i64 x61_3] (fun k_ => some k_ ≠ (v130 : Value).ownBlock ∧ some k_ ≠ (v133 : Value).ownBlock ∧ some k_ ≠ (.slice Ao31 t122.length co31 : Value).ownBlock) (fun _ => False) rfl rfl ?aP (fun _ hk => hk.elim) ?aF ?aO ?aB ?aS ?aL ?_; (case aP => exact rfl); (case aB => exact (by repeat (first | (with_reducible first | exact HB.out | apply q2l | apply q2w | apply q2e | refine below_set ?_ GE114.out | refine below_set ?_ GE125.out) | exact HB.out))); (case aF => exact (fun k_ hk => ⟨Kd.fresh' (Kd.R_lt (by (with_reducible repeat (first | apply q2a | apply q2n | apply q2d)); exact HO_8.out)) k_ hk, Kd.fresh' (Kd.R_lt (by (with_reducible repeat (first | apply q2a | apply q2n | apply q2d)); exact HO_9.out)) k_ hk, Kd.fresh' (Kd.R_lt (by (with_reducible repeat (first | apply q2a | apply q2n | apply q2d)); exact HO_126002.out)) k_ hk⟩)); (case aO => exact (by (with_reducible repeat (first | apply Kd.Q_alloc | apply Kd.Q_drewN | apply Kd.Q_drew)); exact HO_7.out)); (case aS => exact (below_size (by repeat (first | (with_reducible first | exact HB.out | apply q2l | apply q2w | apply q2e | refine below_set ?_ GE114.out | refine below_set ?_ GE125.out) | exact HB.out)))); (case aL => have := LMc45.out; omega); intro v136 w46 ho hb hg hat; rw [← Ny135.out] at ho; have n0_ := Aside0.mk (Kd.R_after (ok := (fun k_ => some k_ ≠ (v133 : Value).ownBlock ∧ some k_ ≠ (.slice Ao31 t122.length co31 : Value).ownBlock)) (by (with_reducible repeat (first | apply q2a | apply q2n | apply q2d)); exact Kd.R_mono HO_8.out (fun _ hk => ⟨⟨hk.2.1, hk.2.2⟩, hk.1⟩)) hg hat); have n1_ := Aside0.mk (Kd.R_after (ok := (fun k_ => some k_ ≠ (v130 : Value).ownBlock ∧ some k_ ≠ (.slice Ao31 t122.length co31 : Value).ownBlock)) (by (with_reducible repeat (first | apply q2a | apply q2n | apply q2d)); exact Kd.R_mono HO_9.out (fun _ hk => ⟨⟨hk.2.1, hk.2.2⟩, hk.1⟩)) hg hat); have n2_ := Aside0.mk (Kd.R_after (ok := (fun k_ => some k_ ≠ (v130 : Value).ownBlock ∧ some k_ ≠ (v133 : Value).ownBlock)) (by (with_reducible repeat (first | apply q2a | apply q2n | apply q2d)); exact Kd.R_mono HO_126002.out (fun _ hk => ⟨⟨hk.2.1, hk.2.2⟩, hk.1⟩)) hg hat); have n3_ := Aside0.mk (blk_grown (g := gb114) (o := .cells #[.int .i64 0, .int .i64 0, .slice none 0 0, .slice none 0 0] 28 (0, 0)) (by (with_reducible repeat (first | refine q2N ?_ _ | refine q2D ?_ | refine q2A ?_ _)); exact BK114.out) hg (Kd.Q_ne HO_7.out BK114.out (by decide))); have n4_ := Aside0.mk (blk_grown (g := gb125) (o := .cells #[.int .i64 0, .int .i64 0, .slice Ao31 t122.length co31, .slice none 0 0] 28 (0, 0)) (by (with_reducible repeat (first | refine q2N ?_ _ | refine q2D ?_ | refine q2A ?_ _)); exact BK125.out) hg (Kd.Q_ne HO_7.out BK125.out (by decide))); have n5_ := Aside0.mk (hb); have n6_ := Aside0.mk (ho); clear HO_8; clear HO_9; clear HO_126002; clear BK114; clear BK125; clear HB; clear HO_7; have HO_8 := n0_; have HO_9 := n1_; have HO_126002 := n2_; have BK114 := n3_; have BK125 := n4_; have HB := n5_; have HO137 := n6_; clear n0_ n1_ n2_ n3_ n4_ n5_ n6_; clear ho hb hg hat))
                 go_roundg k3
                 case measure => have := HJ2.out; have := HJ9.out; have := HK3.out; omega
                 case rel => exact ⟨(y135), (wrap64 (x61_3 + 1)), (by first | rfl | (simp; done) | (simp [*]; done)), H', ⟨by have := HJ2.out; have := HJ9.out; have := HK3.out; omega⟩, ⟨by (with_reducible repeat (first | apply Kd.Q_alloc | apply Kd.Q_drewN | apply Kd.Q_drew)); exact HO137.out⟩, ⟨by (with_reducible repeat (first | apply q2a | apply q2n | apply q2d)); exact Kd.R_mono HO_8.out (fun _ hk => ⟨hk.2, ⟨hk.1.1, hk.1.2⟩⟩)⟩, ⟨by (with_reducible repeat (first | apply q2a | apply q2n | apply q2d)); exact Kd.R_mono HO_9.out (fun _ hk => ⟨hk.2, ⟨hk.1.1, hk.1.2⟩⟩)⟩, ⟨by (with_reducible repeat (first | apply q2a | apply q2n | apply q2d)); exact Kd.R_mono HO_126002.out (fun _ hk => ⟨hk.2, ⟨hk.1.1, hk.1.2⟩⟩)⟩, ⟨by (with_reducible repeat (first | refine q2N ?_ _ | refine q2D ?_ | refine q2A ?_ _)); exact BK114.out⟩, ⟨by (with_reducible repeat (first | refine q2N ?_ _ | refine q2D ?_ | refine q2A ?_ _)); exact BK125.out⟩, ⟨by repeat (first | (with_reducible first | exact HB.out | apply q2l | apply q2w | apply q2e | refine below_set ?_ GE114.out | refine below_set ?_ GE125.out) | exact HB.out)⟩⟩
                ·rw [if_neg c45] at H
                 exact absurd H (by simp)
               ·rw [if_neg c44] at H
                have c44b0 : decide (x61_3 < (l1.length : Int)) = false := decide_eq_false c44
                clear c44
                have H' := Aside0.mk H
                clear H
                go_wp2
                go_loopg [7] k3 (fun kq v7 w' => ∃ (x7_4 : List Int) (x8_4 : List Int) (x9_4 : List Int) (x126000_4 : Int) (x126001_4 : Int) (x126002_4 : List Int) (x126003_4 : List Int) (u126002 : Value) (u126003 : Value), Aside0 (impl_SortRun.l1 kq l0 l1 x7_4 x8_4 x9_4 x126000_4 x126001_4 x126002_4 x126003_4 = some (r1, r2, r3, r4, r5)) ∧ Aside0 (kq ≤ k3) ∧ Aside0 (Kd.Q (Kd.int .i64) 3 w' w.heap.size (fun k_ => some k_ ≠ (v130 : Value).ownBlock ∧ some k_ ≠ (v133 : Value).ownBlock ∧ some k_ ≠ (u126002 : Value).ownBlock ∧ some k_ ≠ (u126003 : Value).ownBlock) v7 x7_4) ∧ Aside0 (Kd.R (Kd.int .i64) 3 w' w.heap.size (fun k_ => some k_ ≠ (v7 : Value).ownBlock ∧ some k_ ≠ (v133 : Value).ownBlock ∧ some k_ ≠ (u126002 : Value).ownBlock ∧ some k_ ≠ (u126003 : Value).ownBlock) v130 x8_4) ∧ Aside0 (Kd.R (Kd.int .i64) 3 w' w.heap.size (fun k_ => some k_ ≠ (v7 : Value).ownBlock ∧ some k_ ≠ (v130 : Value).ownBlock ∧ some k_ ≠ (u126002 : Value).ownBlock ∧ some k_ ≠ (u126003 : Value).ownBlock) v133 x9_4) ∧ Aside0 (Kd.R (Kd.int .i64) 3 w' w.heap.size (fun k_ => some k_ ≠ (v7 : Value).ownBlock ∧ some k_ ≠ (v130 : Value).ownBlock ∧ some k_ ≠ (v133 : Value).ownBlock ∧ some k_ ≠ (u126003 : Value).ownBlock) u126002 x126002_4) ∧ Aside0 (Kd.R (Kd.int .i64) 3 w' w.heap.size (fun k_ => some k_ ≠ (v7 : Value).ownBlock ∧ some k_ ≠ (v130 : Value).ownBlock ∧ some k_ ≠ (v133 : Value).ownBlock ∧ some k_ ≠ (u126002 : Value).ownBlock) u126003 x126003_4) ∧ Aside0 (w'.heap[gb114]? = some (.cells #[.int .i64 0, .int .i64 0, (.slice none 0 0), (.slice none 0 0)] 28 (0, 0))) ∧ Aside0 (w'.heap[gb125]? = some (.cells #[.int .i64 x126000_4, .int .i64 x126001_4, u126002, u126003] 28 (0, 0))) ∧ Aside0 (Below w.heap.size w w'))
                case atStart => exact ⟨(x7_3), (y129), (y132), (0), (0), (t122), (([] : List Int)), (.slice Ao31 t122.length co31), (.slice none 0 0), H', ⟨Nat.le_refl _⟩, ⟨by (with_reducible repeat (first | apply Kd.Q_alloc | apply Kd.Q_drewN | apply Kd.Q_drew)); exact Kd.Q_mono HO_7.out (fun _ hk => ⟨hk.1, ⟨hk.2.1, ⟨hk.2.2, (by simp [Value.ownBlock])⟩⟩⟩)⟩, ⟨by (with_reducible repeat (first | apply q2a | apply q2n | apply q2d)); exact Kd.R_mono HO_8.out (fun _ hk => ⟨hk.1, ⟨hk.2.1, ⟨hk.2.2, (by simp [Value.ownBlock])⟩⟩⟩)⟩, ⟨by (with_reducible repeat (first | apply q2a | apply q2n | apply q2d)); exact Kd.R_mono HO_9.out (fun _ hk => ⟨hk.1, ⟨hk.2.1, ⟨hk.2.2, (by simp [Value.ownBlock])⟩⟩⟩)⟩, ⟨by (with_reducible repeat (first | apply q2a | apply q2n | apply q2d)); exact Kd.R_mono HO_126002.out (fun _ hk => ⟨hk.1, ⟨hk.2.1, ⟨hk.2.2, (by simp [Value.ownBlock])⟩⟩⟩)⟩, ⟨by first | exact Kd.R_nil _ _ _ _ _ | exact Kd.N_nil _ _ _ _ _ | exact Kd.V_nil _ _ _ _ _ | exact Kd.Q_nil _ _ _ _ _ | exact Kd.S_nil _ _ _ _ _⟩, ⟨by (with_reducible repeat (first | refine q2N ?_ _ | refine q2D ?_ | refine q2A ?_ _)); exact BK114.out⟩, ⟨by (with_reducible repeat (first | refine q2N ?_ _ | refine q2D ?_ | refine q2A ?_ _)); exact BK125.out⟩, ⟨by repeat (first | (with_reducible first | exact HB.out | apply q2l | apply q2w | apply q2e | refine below_set ?_ GE114.out | refine below_set ?_ GE125.out) | exact HB.out)⟩⟩
                case round =>
                 clear H'
                 try clear p2
                 try clear c4
                 try clear p6
                 try clear c44
                 try clear c44b0
                 try clear c45
                 try clear p2
                 obtain ⟨x7_4, x8_4, x9_4, x126000_4, x126001_4, x126002_4, x126003_4, u126002, u126003, HA, HK4, HO_7, HO_8, HO_9, HO_126002, HO_126003, BK114, BK125, HB⟩ := hrel
                 cases gk with
                 | zero => exact absurd HA.out (by simp [impl_SortRun.l1])
                 | succ k4 =>
                  have H := HA.out
                  clear HA
                  simp only [impl_SortRun.l1] at H
                  by_cases c47 : (x7_4.length : Int) > 0
                  ·rw [if_pos c47] at H
                   have c47b0 : decide (0 < (x7_4.length : Int)) = true := decide_eq_true c47
                   have c47b1 : decide (0 < x7_4.length) = true := decide_eq_true (by omega)
                   clear c47
                   have H' := Aside0.mk H
                   clear H
                   obtain ⟨Ao48, co48, eo48, _⟩ := Kd.Q_slice HO_7.out
                   subst eo48
                   go_wp2
                   go_loopg [78] k4 (fun kq v78 w' => ∃ (x8_5 : List Int) (x78_5 : Int), v78 = .int .i64 x78_5 ∧ Aside0 (impl_SortRun.l2 kq l0 l1 x7_4 x8_5 x9_4 l0 (l0.length : Int) x78_5 x126000_4 x126001_4 x126002_4 x126003_4 = some (r1, r2, r3, r4, r5)) ∧ Aside0 (kq ≤ k4) ∧ Aside0 (Kd.Q (Kd.int .i64) 3 w' w.heap.size (fun k_ => some k_ ≠ (v130 : Value).ownBlock ∧ some k_ ≠ (v133 : Value).ownBlock ∧ some k_ ≠ (u126002 : Value).ownBlock ∧ some k_ ≠ (u126003 : Value).ownBlock) (.slice Ao48 x7_4.length co48) x7_4) ∧ Aside0 (Kd.R (Kd.int .i64) 3 w' w.heap.size (fun k_ => some k_ ≠ ((.slice Ao48 x7_4.length co48) : Value).ownBlock ∧ some k_ ≠ (v133 : Value).ownBlock ∧ some k_ ≠ (u126002 : Value).ownBlock ∧ some k_ ≠ (u126003 : Value).ownBlock) v130 x8_5) ∧ Aside0 (Kd.R (Kd.int .i64) 3 w' w.heap.size (fun k_ => some k_ ≠ ((.slice Ao48 x7_4.length co48) : Value).ownBlock ∧ some k_ ≠ (v130 : Value).ownBlock ∧ some k_ ≠ (u126002 : Value).ownBlock ∧ some k_ ≠ (u126003 : Value).ownBlock) v133 x9_4) ∧ Aside0 (Kd.R (Kd.int .i64) 3 w' w.heap.size (fun k_ => some k_ ≠ ((.slice Ao48 x7_4.length co48) : Value).ownBlock ∧ some k_ ≠ (v130 : Value).ownBlock ∧ some k_ ≠ (v133 : Value).ownBlock ∧ some k_ ≠ (u126003 : Value).ownBlock) u126002 x126002_4) ∧ Aside0 (Kd.R (Kd.int .i64) 3 w' w.heap.size (fun k_ => some k_ ≠ ((.slice Ao48 x7_4.length co48) : Value).ownBlock ∧ some k_ ≠ (v130 : Value).ownBlock ∧ some k_ ≠ (v133 : Value).ownBlock ∧ some k_ ≠ (u126002 : Value).ownBlock) u126003 x126003_4) ∧ Aside0 (w'.heap[gb114]? = some (.cells #[.int .i64 0, .int .i64 0, (.slice none 0 0), (.slice none 0 0)] 28 (0, 0))) ∧ Aside0 (w'.heap[gb125]? = some (.cells #[.int .i64 x126000_4, .int .i64 x126001_4, u126002, u126003] 28 (0, 0))) ∧ Aside0 (Below w.heap.size w w'))
                   case atStart => exact ⟨(x8_4), (0), (by first | rfl | (simp; done) | (simp [*]; done)), H', ⟨Nat.le_refl _⟩, ⟨by (with_reducible repeat (first | apply Kd.Q_alloc | apply Kd.Q_drewN | apply Kd.Q_drew)); exact HO_7.out⟩, ⟨by (with_reducible repeat (first | apply q2a | apply q2n | apply q2d)); exact HO_8.out⟩, ⟨by (with_reducible repeat (first | apply q2a | apply q2n | apply q2d)); exact HO_9.out⟩, ⟨by (with_reducible repeat (first | apply q2a | apply q2n | apply q2d)); exact HO_126002.out⟩, ⟨by (with_reducible repeat (first | apply q2a | apply q2n | apply q2d)); exact HO_126003.out⟩, ⟨by (with_reducible repeat (first | refine q2N ?_ _ | refine q2D ?_ | refine q2A ?_ _)); exact BK114.out⟩, ⟨by (with_reducible repeat (first | refine q2N ?_ _ | refine q2D ?_ | refine q2A ?_ _)); exact BK125.out⟩, ⟨by repeat (first | (with_reducible first | exact HB.out | apply q2l | apply q2w | apply q2e | refine below_set ?_ GE114.out | refine below_set ?_ GE125.out) | exact HB.out)⟩⟩
                   case round =>
                    clear H'
                    try clear p2
                    try clear c4
                    try clear p6
                    try clear c44
                    try clear c44b0
                    try clear c45
                    try clear c47
                    try clear c47b0
                    try clear c47b1
                    try clear p2
                    try clear p6
                    obtain ⟨x8_5, x78_5, rfl, HA, HK5, HO_7, HO_8, HO_9, HO_126002, HO_126003, BK114, BK125, HB⟩ := hrel
                    cases gk with
                    | zero => exact absurd HA.out (by simp [impl_SortRun.l2])
                    | succ k5 =>
                     have H := HA.out
                     clear HA
                     simp only [impl_SortRun.l2] at H
                     by_cases c49 : x78_5 < (l0.length : Int)
                     ·rw [if_pos c49] at H
                      have c49b0 : decide (x78_5 < (l0.length : Int)) = true := decide_eq_true c49
                      clear c49
                      by_cases c50 : 0 ≤ x78_5
                      ·rw [if_pos c50] at H
                       have c50b0 : decide (0 ≤ x78_5) = true := decide_eq_true c50
                       clear c50
                       by_cases c51 : x78_5 < (l0.length : Int)
                       ·rw [if_pos c51] at H
                        have c51b0 : decide (x78_5 < (l0.length : Int)) = true := decide_eq_true c51
                        clear c51
                        by_cases c52 : ((rd_T32 l0 x78_5).f1) = 0
                        ·rw [if_pos c52] at H
                         exact absurd H (by simp)
                        ·rw [if_neg c52] at H
                         have c52b0 : (((rd_T32 l0 x78_5).f1) == 0) = false := beq_eq_false_iff_ne.mpr c52
                         have c52b1 : (((rd_T32 l0 x78_5).f1) != 0) = true := bne_iff_ne.mpr c52
                         by_cases c53 : (Int.tmod x126000_4 ((rd_T32 l0 x78_5).f1)) = 0
                         ·rw [if_pos c53] at H
                          have c53b0 : ((Int.tmod x126000_4 ((rd_T32 l0 x78_5).f1)) == 0) = true := beq_iff_eq.mpr c53
                          have c53b1 : ((Int.tmod x126000_4 ((rd_T32 l0 x78_5).f1)) != 0) = false := bne_eq_false_iff_eq.mpr c53
                          clear c53
                          by_cases c54 : x78_5 < (x8_5.length : Int)
                          ·rw [if_pos c54] at H
                           have c54b0 : decide (x78_5 < (x8_5.length : Int)) = true := decide_eq_true c54
                           clear c54
                           obtain ⟨y140, hy140⟩ : ∃ y_ : List Int, y_ = (x8_5.set (x78_5 : Int).toNat 0) := ⟨_, rfl⟩
                           replace H : (impl_SortRun.l2 k5 l0 l1 x7_4 y140 x9_4 l0 (l0.length : Int) (wrap64 (x78_5 + 1)) x126000_4 x126001_4 x126002_4 x126003_4) = some (r1, r2, r3, r4, r5) := by first | (rw [hy140]; with_reducible exact H) | (have H2_ := (Option.bind_some _ _).symm.trans H; rw [hy140]; with_reducible exact H2_) | (have H2_ := (Option.bind_some _ _).symm.trans H; with_reducible exact H2_) | with_reducible exact H | (rw [hy140]; exact H) | exact H
                           have Ny140 := Aside0.mk hy140
                           clear hy140
                           have H' := Aside0.mk H
                           clear H
                           have p138 : 0 ≤ (x78_5 : Int) := of_decide_eq_true (by first | (with_reducible assumption) | assumption)
                           have q138 : x78_5 < (l0.length : Int) := of_decide_eq_true (by first | (with_reducible assumption) | assumption)
                           obtain ⟨ad138, e138, hx138_0, hx138_1⟩ := at_T32 HR0.out x78_5 p138 q138
                           cases e138
                           replace hx138_0 := (HB.out.cell (World.block_lt_of_cell? w _ hx138_0)).trans hx138_0
                           replace hx138_1 := (HB.out.cell (World.block_lt_of_cell? w _ hx138_1)).trans hx138_1
                           replace p138 := eq_true p138
                           replace q138 := eq_true q138
                           go_wp2_with (first | ((with_reducible refine gate_dst (N := 12) rfl ?_); (try (refine gate_guard (by rfl) ?_; dsimp only)); refine box_event ?hg (N := 12) ?hd (cs := #[.int .i64 0, .int .i64 0]) (t := 32) ?hr ?_; (case hd => rfl); (case hg => rfl); (case hr => first | (go_simp; done) | (go_simp; rfl)); intro gb139 hg w56 hbox hb; have n0_ := Aside0.mk (Kd.Q_below (by (with_reducible repeat (first | apply Kd.Q_alloc | apply Kd.Q_drewN | apply Kd.Q_drew)); exact HO_7.out) hb); have n1_ := Aside0.mk (Kd.R_below (by (with_reducible repeat (first | apply q2a | apply q2n | apply q2d)); exact HO_8.out) hb); have n2_ := Aside0.mk (Kd.R_below (by (with_reducible repeat (first | apply q2a | apply q2n | apply q2d)); exact HO_9.out) hb); have n3_ := Aside0.mk (Kd.R_below (by (with_reducible repeat (first | apply q2a | apply q2n | apply q2d)); exact HO_126002.out) hb); have n4_ := Aside0.mk (Kd.R_below (by (with_reducible repeat (first | apply q2a | apply q2n | apply q2d)); exact HO_126003.out) hb); have n5_ := Aside0.mk (blk_below (g := gb114) (o := .cells #[.int .i64 0, .int .i64 0, .slice none 0 0, .slice none 0 0] 28 (0, 0)) (by (with_reducible repeat (first | refine q2N ?_ _ | refine q2D ?_ | refine q2A ?_ _)); exact BK114.out) hb); have n6_ := Aside0.mk (blk_below (g := gb125) (o := .cells #[.int .i64 x126000_4, .int .i64 x126001_4, u126002, u126003] 28 (0, 0)) (by (with_reducible repeat (first | refine q2N ?_ _ | refine q2D ?_ | refine q2A ?_ _)); exact BK125.out) hb); have n7_ := Aside0.mk (below_step (by repeat (first | (with_reducible first | exact HB.out | apply q2l | apply q2w | apply q2e | refine below_set ?_ GE114.out | refine below_set ?_ GE125.out) | exact HB.out)) hb); have n8_ := Aside0.mk (hbox); have n9_ := Aside0.mk ((by rw [hg]; exact (below_size (by repeat (first | (with_reducible first | exact HB.out | apply q2l | apply q2w | apply q2e | refine below_set ?_ GE114.out | refine below_set ?_ GE125.out) | exact HB.out))) : w.heap.size ≤ gb139)); have n10_ := Aside0.mk ((by rw [hg]; exact (below_size (by repeat (first | (with_reducible first | exact HB.out | apply q2l | apply q2w | apply q2e | refine below_set ?_ GE114.out | refine below_set ?_ GE125.out) | exact HB.out))) : w.heap.size ≤ gb139)); have n11_ := Aside0.mk ((by rw [hg]; exact Nat.ne_of_lt (blk_lt (g := gb114) (o := .cells #[.int .i64 0, .int .i64 0, .slice none 0 0, .slice none 0 0] 28 (0, 0)) (by (with_reducible repeat (first | refine q2N ?_ _ | refine q2D ?_ | refine q2A ?_ _)); exact BK114.out)) : gb114 ≠ gb139)); have n12_ := Aside0.mk ((by rw [hg]; exact Nat.ne_of_gt (blk_lt (g := gb114) (o := .cells #[.int .i64 0, .int .i64 0, .slice none 0 0, .slice none 0 0] 28 (0, 0)) (by (with_reducible repeat (first | refine q2N ?_ _ | refine q2D ?_ | refine q2A ?_ _)); exact BK114.out)) : gb139 ≠ gb114)); have n13_ := Aside0.mk ((by rw [hg]; exact Nat.ne_of_lt (blk_lt (g := gb125) (o := .cells #[.int .i64 x126000_4, .int .i64 x126001_4, u126002, u126003] 28 (0, 0)) (by (with_reducible repeat (first | refine q2N ?_ _ | refine q2D ?_ | refine q2A ?_ _)); exact BK125.out)) : gb125 ≠ gb139)); have n14_ := Aside0.mk ((by rw [hg]; exact Nat.ne_of_gt (blk_lt (g := gb125) (o := .cells #[.int .i64 x126000_4, .int .i64 x126001_4, u126002, u126003] 28 (0, 0)) (by (with_reducible repeat (first | refine q2N ?_ _ | refine q2D ?_ | refine q2A ?_ _)); exact BK125.out)) : gb139 ≠ gb125)); clear HO_7; clear HO_8; clear HO_9; clear HO_126002; clear HO_126003; clear BK114; clear BK125; clear HB; have HO_7 := n0_; have HO_8 := n1_; have HO_9 := n2_; have HO_126002 := n3_; have HO_126003 := n4_; have BK114 := n5_; have BK125 := n6_; have HB := n7_; have BK139 := n8_; have GW139 := n9_; have GE139 := n10_; have NB114_139 := n11_; have NB139_114 := n12_; have NB125_139 := n13_; have NB139_125 := n14_; clear n0_ n1_ n2_ n3_ n4_ n5_ n6_ n7_ n8_ n9_ n10_ n11_ n12_ n13_ n14_; clear hb hbox hg; have hnb57 := NB139_114.out; have hnc57 := NB114_139.out; have hnb58 := NB139_125.out; have hnc58 := NB125_139.out; have hcz59_0 : w56.cell? ⟨gb139, 0, none⟩ = some (.int .i64 0) := (blk_cell BK139.out 0).trans rfl; have hcz59_1 : w56.cell? ⟨gb139, 1, none⟩ = some (.int .i64 0) := (blk_cell BK139.out 1).trans rfl; have hfz59_0 := blk_frozen BK139.out 0; have hfz59_1 := blk_frozen BK139.out 1) | ((with_reducible refine gate_store (t := 32) (p := 12) rfl ?_); refine store_event (t := 32) (p := 12) (v := ?vo_w60) (w1 := ((w56.setCell ⟨gb139, 0, none⟩ (.int .i64 ((rd_T32 l0 x78_5).f0))).setCell ⟨gb139, 1, none⟩ (.int .i64 ((rd_T32 l0 x78_5).f1)))) ?hg ?ho ?hn ?hr ?_; (case ho => rfl); (case hg => rfl); (case hn => rfl); (case hr => first | (go_simp; done) | (go_simp; rfl)); intro w60 hw; have n0_ : Aside0 (Kd.Q (Kd.int .i64) 3 w60 w.heap.size (fun k_ => some k_ ≠ (v130 : Value).ownBlock ∧ some k_ ≠ (v133 : Value).ownBlock ∧ some k_ ≠ (u126002 : Value).ownBlock ∧ some k_ ≠ (u126003 : Value).ownBlock) (.slice Ao48 x7_4.length co48) x7_4) := ⟨(by rw [hw]; exact (by (with_reducible repeat (first | apply Kd.Q_alloc | apply Kd.Q_drewN | apply Kd.Q_drew)); exact Kd.Q_mono (Kd.Q_far (p := ⟨gb139, 1, none⟩) (Kd.Q_far (p := ⟨gb139, 0, none⟩) (Kd.Q_types HO_7.out BK139.out (by decide)) (fun _ hk => hk.2) (.int .i64 ((rd_T32 l0 x78_5).f0))) (fun _ hk => hk.2) (.int .i64 ((rd_T32 l0 x78_5).f1))) (fun _ hk => ⟨hk.1.1, ⟨hk.1.2.1, ⟨hk.1.2.2.1, hk.1.2.2.2⟩⟩⟩)))⟩; have n1_ : Aside0 (Kd.R (Kd.int .i64) 3 w60 w.heap.size (fun k_ => some k_ ≠ (.slice Ao48 x7_4.length co48 : Value).ownBlock ∧ some k_ ≠ (v133 : Value).ownBlock ∧ some k_ ≠ (u126002 : Value).ownBlock ∧ some k_ ≠ (u126003 : Value).ownBlock) v130 x8_5) := ⟨(by rw [hw]; exact (by (with_reducible repeat (first | apply q2a | apply q2n | apply q2d)); exact Kd.R_mono (Kd.R_far (p := ⟨gb139, 1, none⟩) (Kd.R_far (p := ⟨gb139, 0, none⟩) (Kd.R_types HO_8.out BK139.out (by decide)) (fun _ hk => hk.2) (.int .i64 ((rd_T32 l0 x78_5).f0))) (fun _ hk => hk.2) (.int .i64 ((rd_T32 l0 x78_5).f1))) (fun _ hk => ⟨hk.1.1, ⟨hk.1.2.1, ⟨hk.1.2.2.1, hk.1.2.2.2⟩⟩⟩)))⟩; have n2_ : Aside0 (Kd.R (Kd.int .i64) 3 w60 w.heap.size (fun k_ => some k_ ≠ (.slice Ao48 x7_4.length co48 : Value).ownBlock ∧ some k_ ≠ (v130 : Value).ownBlock ∧ some k_ ≠ (u126002 : Value).ownBlock ∧ some k_ ≠ (u126003 : Value).ownBlock) v133 x9_4) := ⟨(by rw [hw]; exact (by (with_reducible repeat (first | apply q2a | apply q2n | apply q2d)); exact Kd.R_mono (Kd.R_far (p := ⟨gb139, 1, none⟩) (Kd.R_far (p := ⟨gb139, 0, none⟩) (Kd.R_types HO_9.out BK139.out (by decide)) (fun _ hk => hk.2) (.int .i64 ((rd_T32 l0 x78_5).f0))) (fun _ hk => hk.2) (.int .i64 ((rd_T32 l0 x78_5).f1))) (fun _ hk => ⟨hk.1.1, ⟨hk.1.2.1, ⟨hk.1.2.2.1, hk.1.2.2.2⟩⟩⟩)))⟩; have n3_ : Aside0 (Kd.R (Kd.int .i64) 3 w60 w.heap.size (fun k_ => some k_ ≠ (.slice Ao48 x7_4.length co48 : Value).ownBlock ∧ some k_ ≠ (v130 : Value).ownBlock ∧ some k_ ≠ (v133 : Value).ownBlock ∧ some k_ ≠ (u126003 : Value).ownBlock) u126002 x126002_4) := ⟨(by rw [hw]; exact (by (with_reducible repeat (first | apply q2a | apply q2n | apply q2d)); exact Kd.R_mono (Kd.R_far (p := ⟨gb139, 1, none⟩) (Kd.R_far (p := ⟨gb139, 0, none⟩) (Kd.R_types HO_126002.out BK139.out (by decide)) (fun _ hk => hk.2) (.int .i64 ((rd_T32 l0 x78_5).f0))) (fun _ hk => hk.2) (.int .i64 ((rd_T32 l0 x78_5).f1))) (fun _ hk => ⟨hk.1.1, ⟨hk.1.2.1, ⟨hk.1.2.2.1, hk.1.2.2.2⟩⟩⟩)))⟩; have n4_ : Aside0 (Kd.R (Kd.int .i64) 3 w60 w.heap.size (fun k_ => some k_ ≠ (.slice Ao48 x7_4.length co48 : Value).ownBlock ∧ some k_ ≠ (v130 : Value).ownBlock ∧ some k_ ≠ (v133 : Value).ownBlock ∧ some k_ ≠ (u126002 : Value).ownBlock) u126003 x126003_4) := ⟨(by rw [hw]; exact (by (with_reducible repeat (first | apply q2a | apply q2n | apply q2d)); exact Kd.R_mono (Kd.R_far (p := ⟨gb139, 1, none⟩) (Kd.R_far (p := ⟨gb139, 0, none⟩) (Kd.R_types HO_126003.out BK139.out (by decide)) (fun _ hk => hk.2) (.int .i64 ((rd_T32 l0 x78_5).f0))) (fun _ hk => hk.2) (.int .i64 ((rd_T32 l0 x78_5).f1))) (fun _ hk => ⟨hk.1.1, ⟨hk.1.2.1, ⟨hk.1.2.2.1, hk.1.2.2.2⟩⟩⟩)))⟩; have n5_ : Aside0 (w60.heap[gb114]? = some (.cells #[.int .i64 0, .int .i64 0, .slice none 0 0, .slice none 0 0] 28 (0, 0))) := ⟨(by rw [hw]; exact (by (with_reducible repeat (first | refine q2N ?_ _ | refine q2D ?_ | refine q2A ?_ _)); refine blk_far ?_ NB114_139.out _; (with_reducible repeat (first | refine q2N ?_ _ | refine q2D ?_ | refine q2A ?_ _)); refine blk_far ?_ NB114_139.out _; (with_reducible repeat (first | refine q2N ?_ _ | refine q2D ?_ | refine q2A ?_ _)); exact BK114.out))⟩; have n6_ : Aside0 (w60.heap[gb125]? = some (.cells #[.int .i64 x126000_4, .int .i64 x126001_4, u126002, u126003] 28 (0, 0))) := ⟨(by rw [hw]; exact (by (with_reducible repeat (first | refine q2N ?_ _ | refine q2D ?_ | refine q2A ?_ _)); refine blk_far ?_ NB125_139.out _; (with_reducible repeat (first | refine q2N ?_ _ | refine q2D ?_ | refine q2A ?_ _)); refine blk_far ?_ NB125_139.out _; (with_reducible repeat (first | refine q2N ?_ _ | refine q2D ?_ | refine q2A ?_ _)); exact BK125.out))⟩; have n7_ : Aside0 (w60.heap[gb139]? = some (.cells #[.int .i64 ((rd_T32 l0 x78_5).f0), .int .i64 ((rd_T32 l0 x78_5).f1)] 32 (0, 0))) := ⟨(by rw [hw]; exact (by (with_reducible repeat (first | refine q2N ?_ _ | refine q2D ?_ | refine q2A ?_ _)); refine blk_put (cs := #[.int .i64 ((rd_T32 l0 x78_5).f0), .int .i64 0]) ?_ 1 _ rfl; (with_reducible repeat (first | refine q2N ?_ _ | refine q2D ?_ | refine q2A ?_ _)); refine blk_put (cs := #[.int .i64 0, .int .i64 0]) ?_ 0 _ rfl; (with_reducible repeat (first | refine q2N ?_ _ | refine q2D ?_ | refine q2A ?_ _)); exact BK139.out))⟩; have n8_ : Aside0 (Below w.heap.size w w60) := ⟨(by rw [hw]; exact (by repeat (first | (with_reducible first | exact HB.out | apply q2l | apply q2w | apply q2e | refine below_set ?_ GE114.out | refine below_set ?_ GE125.out | refine below_set ?_ GE139.out) | exact HB.out)))⟩; clear hw; clear HO_7; clear HO_8; clear HO_9; clear HO_126002; clear HO_126003; clear BK114; clear BK125; clear BK139; clear HB; have HO_7 := n0_; have HO_8 := n1_; have HO_9 := n2_; have HO_126002 := n3_; have HO_126003 := n4_; have BK114 := n5_; have BK125 := n6_; have BK139 := n7_; have HB := n8_; clear n0_ n1_ n2_ n3_ n4_ n5_ n6_ n7_ n8_; have hnb61 := NB125_114.out; have hnc61 := NB114_125.out; have hcz62_0 : w60.cell? ⟨gb125, 0, none⟩ = some (.int .i64 x126000_4) := (blk_cell BK125.out 0).trans rfl; have hcz62_1 : w60.cell? ⟨gb125, 1, none⟩ = some (.int .i64 x126001_4) := (blk_cell BK125.out 1).trans rfl; have hcz62_2 : w60.cell? ⟨gb125, 2, none⟩ = some (u126002) := (blk_cell BK125.out 2).trans rfl; have hcz62_3 : w60.cell? ⟨gb125, 3, none⟩ = some (u126003) := (blk_cell BK125.out 3).trans rfl; have hfz62_0 := blk_frozen BK125.out 0; have hfz62_1 := blk_frozen BK125.out 1; have hfz62_2 := blk_frozen BK125.out 2; have hfz62_3 := blk_frozen BK125.out 3; have hcz63_0 : w60.cell? ⟨gb139, 0, none⟩ = some (.int .i64 ((rd_T32 l0 x78_5).f0)) := (blk_cell BK139.out 0).trans rfl; have hcz63_1 : w60.cell? ⟨gb139, 1, none⟩ = some (.int .i64 ((rd_T32 l0 x78_5).f1)) := (blk_cell BK139.out 1).trans rfl; have hfz63_0 := blk_frozen BK139.out 0; have hfz63_1 := blk_frozen BK139.out 1; have p55 : 0 ≤ (x78_5 : Int) := of_decide_eq_true (by first | (with_reducible assumption) | assumption); have q55 : (x78_5 : Int) < ((x8_5.length : Int) : Int) := of_decide_eq_true (by first | (with_reducible assumption) | assumption); obtain ⟨go55, co55, eo55, gb55, gl55, cl55, HG55⟩ := Kd.R_form HO_8.out (by omega); (first | cases eo55 | (injection eo55 with ea_ en_ ec_; (first | subst ea_ | (injection ea_ with ea_; subst ea_)); subst ec_; clear en_)); have GB55 := Aside0.mk gb55; have GG55 := Aside0.mk HG55; clear gb55 gl55 HG55; obtain ⟨hx55_0, hf55_0⟩ := Kd.R_celln 0 HO_8.out (x78_5 : Int) p55 q55; replace p55 := eq_true p55; replace q55 := eq_true q55; obtain ⟨hy64_, hz64_⟩ := Kd.R_celln 0 HO_8.out (x78_5 : Int) (of_decide_eq_true (by first | (with_reducible assumption) | assumption)) (of_decide_eq_true (by first | (with_reducible assumption) | assumption)); have HP64 := Kd.R_putg HO_8.out (x78_5 : Int) 0) | ((with_reducible refine gate_store (t := 3) (p := 91) rfl ?_); refine store_event (t := 3) (p := 91) (v := ?vo_w65) (w1 := (w60.setCell ⟨go55, (x78_5 : Int).toNat, none⟩ (.int .i64 0))) ?hg ?ho ?hn ?hr ?_; (case ho => rfl); (case hg => rfl); (case hn => rfl); (case hr => first | (go_simp; done) | (go_simp; rfl)); intro w65 hw; have hg : w60.grownBy w65 (some go55) := (by rw [hw]; exact HP64.2); have hp_ : Kd.R (Kd.int .i64) 3 w65 w.heap.size (fun k_ => some k_ ≠ (.slice Ao48 x7_4.length co48 : Value).ownBlock ∧ some k_ ≠ (v133 : Value).ownBlock ∧ some k_ ≠ (u126002 : Value).ownBlock ∧ some k_ ≠ (u126003 : Value).ownBlock) (.slice (some ⟨go55, 0, none⟩) x8_5.length co55) y140 := (by rw [hw, Ny140.out]; exact HP64.1); clear HP64; have n0_ := Aside0.mk (Kd.Q_after (v := (.slice (some ⟨go55, 0, none⟩) x8_5.length co55)) (v1 := (.slice (some ⟨go55, 0, none⟩) x8_5.length co55)) (ok := (fun k_ => some k_ ≠ (v133 : Value).ownBlock ∧ some k_ ≠ (u126002 : Value).ownBlock ∧ some k_ ≠ (u126003 : Value).ownBlock)) (by (with_reducible repeat (first | apply Kd.Q_alloc | apply Kd.Q_drewN | apply Kd.Q_drew)); exact Kd.Q_mono HO_7.out (fun _ hk => ⟨⟨hk.2.1, ⟨hk.2.2.1, hk.2.2.2⟩⟩, hk.1⟩)) hg (.inl rfl)); have n1_ := Aside0.mk (hp_); have n2_ := Aside0.mk (Kd.R_after (v := (.slice (some ⟨go55, 0, none⟩) x8_5.length co55)) (v1 := (.slice (some ⟨go55, 0, none⟩) x8_5.length co55)) (ok := (fun k_ => some k_ ≠ (.slice Ao48 x7_4.length co48 : Value).ownBlock ∧ some k_ ≠ (u126002 : Value).ownBlock ∧ some k_ ≠ (u126003 : Value).ownBlock)) (by (with_reducible repeat (first | apply q2a | apply q2n | apply q2d)); exact Kd.R_mono HO_9.out (fun _ hk => ⟨⟨hk.1, ⟨hk.2.2.1, hk.2.2.2⟩⟩, hk.2.1⟩)) hg (.inl rfl)); have n3_ := Aside0.mk (Kd.R_after (v := (.slice (some ⟨go55, 0, none⟩) x8_5.length co55)) (v1 := (.slice (some ⟨go55, 0, none⟩) x8_5.length co55)) (ok := (fun k_ => some k_ ≠ (.slice Ao48 x7_4.length co48 : Value).ownBlock ∧ some k_ ≠ (v133 : Value).ownBlock ∧ some k_ ≠ (u126003 : Value).ownBlock)) (by (with_reducible repeat (first | apply q2a | apply q2n | apply q2d)); exact Kd.R_mono HO_126002.out (fun _ hk => ⟨⟨hk.1, ⟨hk.2.2.1, hk.2.2.2⟩⟩, hk.2.1⟩)) hg (.inl rfl)); have n4_ := Aside0.mk (Kd.R_after (v := (.slice (some ⟨go55, 0, none⟩) x8_5.length co55)) (v1 := (.slice (some ⟨go55, 0, none⟩) x8_5.length co55)) (ok := (fun k_ => some k_ ≠ (.slice Ao48 x7_4.length co48 : Value).ownBlock ∧ some k_ ≠ (v133 : Value).ownBlock ∧ some k_ ≠ (u126002 : Value).ownBlock)) (by (with_reducible repeat (first | apply q2a | apply q2n | apply q2d)); exact Kd.R_mono HO_126003.out (fun _ hk => ⟨⟨hk.1, ⟨hk.2.2.1, hk.2.2.2⟩⟩, hk.2.1⟩)) hg (.inl rfl)); have n5_ := Aside0.mk (blk_grown (g := gb114) (o := .cells #[.int .i64 0, .int .i64 0, .slice none 0 0, .slice none 0 0] 28 (0, 0)) (by (with_reducible repeat (first | refine q2N ?_ _ | refine q2D ?_ | refine q2A ?_ _)); exact BK114.out) hg (Kd.R_ne HO_8.out BK114.out (by decide))); have n6_ := Aside0.mk (blk_grown (g := gb125) (o := .cells #[.int .i64 x126000_4, .int .i64 x126001_4, u126002, u126003] 28 (0, 0)) (by (with_reducible repeat (first | refine q2N ?_ _ | refine q2D ?_ | refine q2A ?_ _)); exact BK125.out) hg (Kd.R_ne HO_8.out BK125.out (by decide))); have n7_ := Aside0.mk (blk_grown (g := gb139) (o := .cells #[.int .i64 ((rd_T32 l0 x78_5).f0), .int .i64 ((rd_T32 l0 x78_5).f1)] 32 (0, 0)) (by (with_reducible repeat (first | refine q2N ?_ _ | refine q2D ?_ | refine q2A ?_ _)); exact BK139.out) hg (Kd.R_ne HO_8.out BK139.out (by decide))); have n8_ := Aside0.mk ((by rw [hw]; exact below_set (HB.out) GB55.out : Below w.heap.size w w65)); clear HO_7; clear HO_8; clear HO_9; clear HO_126002; clear HO_126003; clear BK114; clear BK125; clear BK139; clear HB; have HO_7 := n0_; have HO_8 := n1_; have HO_9 := n2_; have HO_126002 := n3_; have HO_126003 := n4_; have BK114 := n5_; have BK125 := n6_; have BK139 := n7_; have HB := n8_; clear n0_ n1_ n2_ n3_ n4_ n5_ n6_ n7_ n8_; clear hg hw hp_))
                           go_roundg k5
                           case measure => have := HJ2.out; have := HJ9.out; have := HK3.out; have := HK4.out; have := HK5.out; omega
                           case rel => exact ⟨(y140), (wrap64 (x78_5 + 1)), (by first | rfl | (simp; done) | (simp [*]; done)), H', ⟨by have := HJ2.out; have := HJ9.out; have := HK3.out; have := HK4.out; have := HK5.out; omega⟩, ⟨by (with_reducible repeat (first | apply Kd.Q_alloc | apply Kd.Q_drewN | apply Kd.Q_drew)); exact Kd.Q_mono HO_7.out (fun _ hk => ⟨hk.2, ⟨hk.1.1, ⟨hk.1.2.1, hk.1.2.2⟩⟩⟩)⟩, ⟨by (with_reducible repeat (first | apply q2a | apply q2n | apply q2d)); exact HO_8.out⟩, ⟨by (with_reducible repeat (first | apply q2a | apply q2n | apply q2d)); exact Kd.R_mono HO_9.out (fun _ hk => ⟨hk.1.1, ⟨hk.2, ⟨hk.1.2.1, hk.1.2.2⟩⟩⟩)⟩, ⟨by (with_reducible repeat (first | apply q2a | apply q2n | apply q2d)); exact Kd.R_mono HO_126002.out (fun _ hk => ⟨hk.1.1, ⟨hk.2, ⟨hk.1.2.1, hk.1.2.2⟩⟩⟩)⟩, ⟨by (with_reducible repeat (first | apply q2a | apply q2n | apply q2d)); exact Kd.R_mono HO_126003.out (fun _ hk => ⟨hk.1.1, ⟨hk.2, ⟨hk.1.2.1, hk.1.2.2⟩⟩⟩)⟩, ⟨by (with_reducible repeat (first | refine q2N ?_ _ | refine q2D ?_ | refine q2A ?_ _)); exact BK114.out⟩, ⟨by (with_reducible repeat (first | refine q2N ?_ _ | refine q2D ?_ | refine q2A ?_ _)); exact BK125.out⟩, ⟨by repeat (first | (with_reducible first | exact HB.out | apply q2l | apply q2w | apply q2e | refine below_set ?_ GE114.out | refine below_set ?_ GE125.out | refine below_set ?_ GE139.out) | exact HB.out)⟩⟩
                          ·rw [if_neg c54] at H
                           exact absurd H (by simp)
                         ·rw [if_neg c53] at H
                          have c53b0 : ((Int.tmod x126000_4 ((rd_T32 l0 x78_5).f1)) == 0) = false := beq_eq_false_iff_ne.mpr c53
                          have c53b1 : ((Int.tmod x126000_4 ((rd_T32 l0 x78_5).f1)) != 0) = true := bne_iff_ne.mpr c53
                          have H' := Aside0.mk H
                          clear H
                          have p138 : 0 ≤ (x78_5 : Int) := of_decide_eq_true (by first | (with_reducible assumption) | assumption)
                          have q138 : x78_5 < (l0.length : Int) := of_decide_eq_true (by first | (with_reducible assumption) | assumption)
                          obtain ⟨ad138, e138, hx138_0, hx138_1⟩ := at_T32 HR0.out x78_5 p138 q138
                          cases e138
                          replace hx138_0 := (HB.out.cell (World.block_lt_of_cell? w _ hx138_0)).trans hx138_0
                          replace hx138_1 := (HB.out.cell (World.block_lt_of_cell? w _ hx138_1)).trans hx138_1
                          replace p138 := eq_true p138
                          replace q138 := eq_true q138
                          go_wp2_with (first | ((with_reducible refine gate_dst (N := 12) rfl ?_); (try (refine gate_guard (by rfl) ?_; dsimp only)); refine box_event ?hg (N := 12) ?hd (cs := #[.int .i64 0, .int .i64 0]) (t := 32) ?hr ?_; (case hd => rfl); (case hg => rfl); (case hr => first | (go_simp; done) | (go_simp; rfl)); intro gb139 hg w66 hbox hb; have n0_ := Aside0.mk (Kd.Q_below (by (with_reducible repeat (first | apply Kd.Q_alloc | apply Kd.Q_drewN | apply Kd.Q_drew)); exact HO_7.out) hb); have n1_ := Aside0.mk (Kd.R_below (by (with_reducible repeat (first | apply q2a | apply q2n | apply q2d)); exact HO_8.out) hb); have n2_ := Aside0.mk (Kd.R_below (by (with_reducible repeat (first | apply q2a | apply q2n | apply q2d)); exact HO_9.out) hb); have n3_ := Aside0.mk (Kd.R_below (by (with_reducible repeat (first | apply q2a | apply q2n | apply q2d)); exact HO_126002.out) hb); have n4_ := Aside0.mk (Kd.R_below (by (with_reducible repeat (first | apply q2a | apply q2n | apply q2d)); exact HO_126003.out) hb); have n5_ := Aside0.mk (blk_below (g := gb114) (o := .cells #[.int .i64 0, .int .i64 0, .slice none 0 0, .slice none 0 0] 28 (0, 0)) (by (with_reducible repeat (first | refine q2N ?_ _ | refine q2D ?_ | refine q2A ?_ _)); exact BK114.out) hb); have n6_ := Aside0.mk (blk_below (g := gb125) (o := .cells #[.int .i64 x126000_4, .int .i64 x126001_4, u126002, u126003] 28 (0, 0)) (by (with_reducible repeat (first | refine q2N ?_ _ | refine q2D ?_ | refine q2A ?_ _)); exact BK125.out) hb); have n7_ := Aside0.mk (below_step (by repeat (first | (with_reducible first | exact HB.out | apply q2l | apply q2w | apply q2e | refine below_set ?_ GE114.out | refine below_set ?_ GE125.out) | exact HB.out)) hb); have n8_ := Aside0.mk (hbox); have n9_ := Aside0.mk ((by rw [hg]; exact (below_size (by repeat (first | (with_reducible first | exact HB.out | apply q2l | apply q2w | apply q2e | refine below_set ?_ GE114.out | refine below_set ?_ GE125.out) | exact HB.out))) : w.heap.size ≤ gb139)); have n10_ := Aside0.mk ((by rw [hg]; exact (below_size (by repeat (first | (with_reducible first | exact HB.out | apply q2l | apply q2w | apply q2e | refine below_set ?_ GE114.out | refine below_set ?_ GE125.out) | exact HB.out))) : w.heap.size ≤ gb139)); have n11_ := Aside0.mk ((by rw [hg]; exact Nat.ne_of_lt (blk_lt (g := gb114) (o := .cells #[.int .i64 0, .int .i64 0, .slice none 0 0, .slice none 0 0] 28 (0, 0)) (by (with_reducible repeat (first | refine q2N ?_ _ | refine q2D ?_ | refine q2A ?_ _)); exact BK114.out)) : gb114 ≠ gb139)); have n12_ := Aside0.mk ((by rw [hg]; exact Nat.ne_of_gt (blk_lt (g := gb114) (o := .cells #[.int .i64 0, .int .i64 0, .slice none 0 0, .slice none 0 0] 28 (0, 0)) (by (with_reducible repeat (first | refine q2N ?_ _ | refine q2D ?_ | refine q2A ?_ _)); exact BK114.out)) : gb139 ≠ gb114)); have n13_ := Aside0.mk ((by rw [hg]; exact Nat.ne_of_lt (blk_lt (g := gb125) (o := .cells #[.int .i64 x126000_4, .int .i64 x126001_4, u126002, u126003] 28 (0, 0)) (by (with_reducible repeat (first | refine q2N ?_ _ | refine q2D ?_ | refine q2A ?_ _)); exact BK125.out)) : gb125 ≠ gb139)); have n14_ := Aside0.mk ((by rw [hg]; exact Nat.ne_of_gt (blk_lt (g := gb125) (o := .cells #[.int .i64 x126000_4, .int .i64 x126001_4, u126002, u126003] 28 (0, 0)) (by (with_reducible repeat (first | refine q2N ?_ _ | refine q2D ?_ | refine q2A ?_ _)); exact BK125.out)) : gb139 ≠ gb125)); clear HO_7; clear HO_8; clear HO_9; clear HO_126002; clear HO_126003; clear BK114; clear BK125; clear HB; have HO_7 := n0_; have HO_8 := n1_; have HO_9 := n2_; have HO_126002 := n3_; have HO_126003 := n4_; have BK114 := n5_; have BK125 := n6_; have HB := n7_; have BK139 := n8_; have GW139 := n9_; have GE139 := n10_; have NB114_139 := n11_; have NB139_114 := n12_; have NB125_139 := n13_; have NB139_125 := n14_; clear n0_ n1_ n2_ n3_ n4_ n5_ n6_ n7_ n8_ n9_ n10_ n11_ n12_ n13_ n14_; clear hb hbox hg; have hnb67 := NB139_114.out; have hnc67 := NB114_139.out; have hnb68 := NB139_125.out; have hnc68 := NB125_139.out; have hcz69_0 : w66.cell? ⟨gb139, 0, none⟩ = some (.int .i64 0) := (blk_cell BK139.out 0).trans rfl; have hcz69_1 : w66.cell? ⟨gb139, 1, none⟩ = some (.int .i64 0) := (blk_cell BK139.out 1).trans rfl; have hfz69_0 := blk_frozen BK139.out 0; have hfz69_1 := blk_frozen BK139.out 1; have hnb70 := NB125_114.out; have hnc70 := NB114_125.out; have hcz71_0 : w66.cell? ⟨gb125, 0, none⟩ = some (.int .i64 x126000_4) := (blk_cell BK125.out 0).trans rfl; have hcz71_1 : w66.cell? ⟨gb125, 1, none⟩ = some (.int .i64 x126001_4) := (blk_cell BK125.out 1).trans rfl; have hcz71_2 : w66.cell? ⟨gb125, 2, none⟩ = some (u126002) := (blk_cell BK125.out 2).trans rfl; have hcz71_3 : w66.cell? ⟨gb125, 3, none⟩ = some (u126003) := (blk_cell BK125.out 3).trans rfl; have hfz71_0 := blk_frozen BK125.out 0; have hfz71_1 := blk_frozen BK125.out 1; have hfz71_2 := blk_frozen BK125.out 2; have hfz71_3 := blk_frozen BK125.out 3))
                          go_roundg k5
                          case measure => have := HJ2.out; have := HJ9.out; have := HK3.out; have := HK4.out; have := HK5.out; omega
                          case rel => exact ⟨(x8_5), (wrap64 (x78_5 + 1)), (by first | rfl | (simp; done) | (simp [*]; done)), H', ⟨by have := HJ2.out; have := HJ9.out; have := HK3.out; have := HK4.out; have := HK5.out; omega⟩, ⟨by (with_reducible repeat (first | apply Kd.Q_alloc | apply Kd.Q_drewN | apply Kd.Q_drew)); exact Kd.Q_mono (Kd.Q_far (p := ⟨gb139, 1, none⟩) (Kd.Q_far (p := ⟨gb139, 0, none⟩) (Kd.Q_types HO_7.out BK139.out (by decide)) (fun _ hk => hk.2) (.int .i64 ((rd_T32 l0 x78_5).f0))) (fun _ hk => hk.2) (.int .i64 ((rd_T32 l0 x78_5).f1))) (fun _ hk => ⟨hk.1.1, ⟨hk.1.2.1, ⟨hk.1.2.2.1, hk.1.2.2.2⟩⟩⟩)⟩, ⟨by (with_reducible repeat (first | apply q2a | apply q2n | apply q2d)); exact Kd.R_mono (Kd.R_far (p := ⟨gb139, 1, none⟩) (Kd.R_far (p := ⟨gb139, 0, none⟩) (Kd.R_types HO_8.out BK139.out (by decide)) (fun _ hk => hk.2) (.int .i64 ((rd_T32 l0 x78_5).f0))) (fun _ hk => hk.2) (.int .i64 ((rd_T32 l0 x78_5).f1))) (fun _ hk => ⟨hk.1.1, ⟨hk.1.2.1, ⟨hk.1.2.2.1, hk.1.2.2.2⟩⟩⟩)⟩, ⟨by (with_reducible repeat (first | apply q2a | apply q2n | apply q2d)); exact Kd.R_mono (Kd.R_far (p := ⟨gb139, 1, none⟩) (Kd.R_far (p := ⟨gb139, 0, none⟩) (Kd.R_types HO_9.out BK139.out (by decide)) (fun _ hk => hk.2) (.int .i64 ((rd_T32 l0 x78_5).f0))) (fun _ hk => hk.2) (.int .i64 ((rd_T32 l0 x78_5).f1))) (fun _ hk => ⟨hk.1.1, ⟨hk.1.2.1, ⟨hk.1.2.2.1, hk.1.2.2.2⟩⟩⟩)⟩, ⟨by (with_reducible repeat (first | apply q2a | apply q2n | apply q2d)); exact Kd.R_mono (Kd.R_far (p := ⟨gb139, 1, none⟩) (Kd.R_far (p := ⟨gb139, 0, none⟩) (Kd.R_types HO_126002.out BK139.out (by decide)) (fun _ hk => hk.2) (.int .i64 ((rd_T32 l0 x78_5).f0))) (fun _ hk => hk.2) (.int .i64 ((rd_T32 l0 x78_5).f1))) (fun _ hk => ⟨hk.1.1, ⟨hk.1.2.1, ⟨hk.1.2.2.1, hk.1.2.2.2⟩⟩⟩)⟩, ⟨by (with_reducible repeat (first | apply q2a | apply q2n | apply q2d)); exact Kd.R_mono (Kd.R_far (p := ⟨gb139, 1, none⟩) (Kd.R_far (p := ⟨gb139, 0, none⟩) (Kd.R_types HO_126003.out BK139.out (by decide)) (fun _ hk => hk.2) (.int .i64 ((rd_T32 l0 x78_5).f0))) (fun _ hk => hk.2) (.int .i64 ((rd_T32 l0 x78_5).f1))) (fun _ hk => ⟨hk.1.1, ⟨hk.1.2.1, ⟨hk.1.2.2.1, hk.1.2.2.2⟩⟩⟩)⟩, ⟨by (with_reducible repeat (first | refine q2N ?_ _ | refine q2D ?_ | refine q2A ?_ _)); refine blk_far ?_ NB114_139.out _; (with_reducible repeat (first | refine q2N ?_ _ | refine q2D ?_ | refine q2A ?_ _)); refine blk_far ?_ NB114_139.out _; (with_reducible repeat (first | refine q2N ?_ _ | refine q2D ?_ | refine q2A ?_ _)); exact BK114.out⟩, ⟨by (with_reducible repeat (first | refine q2N ?_ _ | refine q2D ?_ | refine q2A ?_ _)); refine blk_far ?_ NB125_139.out _; (with_reducible repeat (first | refine q2N ?_ _ | refine q2D ?_ | refine q2A ?_ _)); refine blk_far ?_ NB125_139.out _; (with_reducible repeat (first | refine q2N ?_ _ | refine q2D ?_ | refine q2A ?_ _)); exact BK125.out⟩, ⟨by repeat (first | (with_reducible first | exact HB.out | apply q2l | apply q2w | apply q2e | refine below_set ?_ GE114.out | refine below_set ?_ GE125.out | refine below_set ?_ GE139.out) | exact HB.out)⟩⟩
                       ·rw [if_neg c51] at H
                        exact absurd H (by simp)
                      ·rw [if_neg c50] at H
                       exact absurd H (by simp)
                     ·rw [if_neg c49] at H
                      have c49b0 : decide (x78_5 < (l0.length : Int)) = false := decide_eq_false c49
                      clear c49
                      by_cases c72 : 0 < (x7_4.length : Int)
                      ·rw [if_pos c72] at H
                       have c72b0 : decide (0 < (x7_4.length : Int)) = true := decide_eq_true c72
                       have c72b1 : decide (0 < x7_4.length) = true := decide_eq_true (by omega)
                       clear c72
                       by_cases c73 : 0 ≤ (rd x7_4 0)
                       ·rw [if_pos c73] at H
                        have c73b0 : decide (0 ≤ (rd x7_4 0)) = true := decide_eq_true c73
                        clear c73
                        by_cases c74 : (rd x7_4 0) < (l1.length : Int)
                        ·rw [if_pos c74] at H
                         have c74b0 : decide ((rd x7_4 0) < (l1.length : Int)) = true := decide_eq_true c74
                         clear c74
                         by_cases c75 : 1 ≤ (x7_4.length : Int)
                         ·rw [if_pos c75] at H
                          have c75b0 := eq_true c75
                          have c75b1 : decide (1 ≤ (x7_4.length : Int)) = true := decide_eq_true c75
                          clear c75
                          obtain ⟨y143, hy143⟩ : ∃ y_ : List Int, y_ = (x7_4.drop (1 : Int).toNat) := ⟨_, rfl⟩
                          replace H : (if 0 ≤ (rd l1 (rd x7_4 0)) then (if (rd l1 (rd x7_4 0)) < (x8_5.length : Int) then (if (rd l1 (rd x7_4 0)) < (l0.length : Int) then (if (rd x8_5 (rd l1 (rd x7_4 0))) < ((rd_T32 l0 (rd l1 (rd x7_4 0))).f0) then (if (rd x7_4 0) < (x126002_4.length : Int) then (impl_SortRun.l1 k5 l0 l1 y143 (x8_5.set ((rd l1 (rd x7_4 0)) : Int).toNat (wrap64 ((rd x8_5 (rd l1 (rd x7_4 0))) + 1))) x9_4 (wrap64 (x126000_4 + 1)) x126001_4 (x126002_4.set ((rd x7_4 0) : Int).toNat x126000_4) x126003_4) else (none)) else (if (rd x7_4 0) < (x9_4.length : Int) then (if (rd x9_4 (rd x7_4 0)) = 3 then (if x126003_4.length < 17592186044416 then (impl_SortRun.l1 k5 l0 l1 y143 x8_5 x9_4 (wrap64 (x126000_4 + 1)) x126001_4 x126002_4 (x126003_4 ++ [rd x7_4 0])) else (none)) else (if y143.length < 17592186044416 then (impl_SortRun.l1 k5 l0 l1 (y143 ++ [rd x7_4 0]) x8_5 (x9_4.set ((rd x7_4 0) : Int).toNat (wrap64 ((rd x9_4 (rd x7_4 0)) + 1))) (wrap64 (x126000_4 + 1)) (wrap64 (x126001_4 + 1)) x126002_4 x126003_4) else (none))) else (none))) else (none)) else (none)) else (none)) = some (r1, r2, r3, r4, r5) := by first | (rw [hy143]; with_reducible exact H) | (have H2_ := (Option.bind_some _ _).symm.trans H; rw [hy143]; with_reducible exact H2_) | (have H2_ := (Option.bind_some _ _).symm.trans H; with_reducible exact H2_) | with_reducible exact H | (rw [hy143]; exact H) | exact H
                          have Ny143 := Aside0.mk hy143
                          clear hy143
                          by_cases c76 : 0 ≤ (rd l1 (rd x7_4 0))
                          ·rw [if_pos c76] at H
                           have c76b0 : decide (0 ≤ (rd l1 (rd x7_4 0))) = true := decide_eq_true c76
                           clear c76
                           by_cases c77 : (rd l1 (rd x7_4 0)) < (x8_5.length : Int)
                           ·rw [if_pos c77] at H
                            have c77b0 : decide ((rd l1 (rd x7_4 0)) < (x8_5.length : Int)) = true := decide_eq_true c77
                            clear c77
                            by_cases c78 : (rd l1 (rd x7_4 0)) < (l0.length : Int)
                            ·rw [if_pos c78] at H
                             have c78b0 : decide ((rd l1 (rd x7_4 0)) < (l0.length : Int)) = true := decide_eq_true c78
                             clear c78
                             by_cases c79 : (rd x8_5 (rd l1 (rd x7_4 0))) < ((rd_T32 l0 (rd l1 (rd x7_4 0))).f0)
                             ·rw [if_pos c79] at H
                              have c79b0 : decide ((rd x8_5 (rd l1 (rd x7_4 0))) < ((rd_T32 l0 (rd l1 (rd x7_4 0))).f0)) = true := decide_eq_true c79
                              clear c79
                              obtain ⟨y149, hy149⟩ : ∃ y_ : List Int, y_ = (x8_5.set ((rd l1 (rd x7_4 0)) : Int).toNat (wrap64 ((rd x8_5 (rd l1 (rd x7_4 0))) + 1))) := ⟨_, rfl⟩
                              replace H : (if (rd x7_4 0) < (x126002_4.length : Int) then (impl_SortRun.l1 k5 l0 l1 y143 y149 x9_4 (wrap64 (x126000_4 + 1)) x126001_4 (x126002_4.set ((rd x7_4 0) : Int).toNat x126000_4) x126003_4) else (none)) = some (r1, r2, r3, r4, r5) := by first | (rw [hy149]; with_reducible exact H) | (have H2_ := (Option.bind_some _ _).symm.trans H; rw [hy149]; with_reducible exact H2_) | (have H2_ := (Option.bind_some _ _).symm.trans H; with_reducible exact H2_) | with_reducible exact H | (rw [hy149]; exact H) | exact H
                              have Ny149 := Aside0.mk hy149
                              clear hy149
                              by_cases c81 : (rd x7_4 0) < (x126002_4.length : Int)
                              ·rw [if_pos c81] at H
                               have c81b0 : decide ((rd x7_4 0) < (x126002_4.length : Int)) = true := decide_eq_true c81
                               clear c81
                               obtain ⟨y150, hy150⟩ : ∃ y_ : List Int, y_ = (x126002_4.set ((rd x7_4 0) : Int).toNat x126000_4) := ⟨_, rfl⟩
                               replace H : (impl_SortRun.l1 k5 l0 l1 y143 y149 x9_4 (wrap64 (x126000_4 + 1)) x126001_4 y150 x126003_4) = some (r1, r2, r3, r4, r5) := by first | (rw [hy150]; with_reducible exact H) | (have H2_ := (Option.bind_some _ _).symm.trans H; rw [hy150]; with_reducible exact H2_) | (have H2_ := (Option.bind_some _ _).symm.trans H; with_reducible exact H2_) | with_reducible exact H | (rw [hy150]; exact H) | exact H
                               have Ny150 := Aside0.mk hy150
                               clear hy150
                               have H' := Aside0.mk H
                               clear H
                               have p141 : 0 ≤ (0 : Int) := (by omega)
                               have q141 : 0 < (x7_4.length : Int) := of_decide_eq_true (by first | (with_reducible assumption) | assumption)
                               obtain ⟨ad141, e141, hx141_0⟩ := Kd.at_int (Kd.Q_reads' HO_7.out).2.2 0 p141 q141
                               cases e141
                               have qi141 : (0 < x7_4.length) = True := eq_true (by omega)
                               (try rw [show ((0 : Int)).toNat = 0 from rfl] at hx141_0)
                               (try rw [Addr.add_zero'] at hx141_0)
                               replace p141 := eq_true p141
                               replace q141 := eq_true q141
                               have p142 : 0 ≤ ((rd x7_4 0) : Int) := of_decide_eq_true (by first | (with_reducible assumption) | assumption)
                               have q142 : (rd x7_4 0) < (l1.length : Int) := of_decide_eq_true (by first | (with_reducible assumption) | assumption)
                               obtain ⟨ad142, e142, hx142_0⟩ := Kd.at_int HR1.out (rd x7_4 0) p142 q142
                               cases e142
                               replace hx142_0 := (HB.out.cell (World.block_lt_of_cell? w _ hx142_0)).trans hx142_0
                               replace p142 := eq_true p142
                               replace q142 := eq_true q142
                               have q83 : (1 : Int) ≤ ((x7_4.length : Int) : Int) := of_decide_eq_true (by first | (with_reducible assumption) | assumption)
                               obtain ⟨i083, hi083, _, hsz83, _⟩ := info_parts info3
                               have hcut83 := cut_from (P := Try.prog) 24 3 .i64 Try.underlying24 hi083 1 hsz83 (some ad141) x7_4.length co48 1 (by omega) q83
                               have hr83 := Kd.Q_drop (k := (1 : Int).toNat) HO_7.out (by omega)
                               obtain ⟨A83, hA83⟩ : ∃ A1, A1 = (if co48 = (1 : Int).toNat then (some ad141) else ((some ad141) : Option Addr).map (·.add ((1 : Int).toNat * 1))) := ⟨_, rfl⟩
                               obtain ⟨c83, hc83⟩ : ∃ c1, c1 = co48 - (1 : Int).toNat := ⟨_, rfl⟩
                               have hy83 : y143.length = x7_4.length - (1 : Int).toNat := (by rw [Ny143.out, List.length_drop])
                               rw [← Ny143.out] at hr83
                               rw [← hy83, ← hA83, ← hc83] at hcut83
                               replace hr83 : Kd.Q (Kd.int .i64) 3 wr w.heap.size (fun k_ => some k_ ≠ (v130 : Value).ownBlock ∧ some k_ ≠ (v133 : Value).ownBlock ∧ some k_ ≠ (u126002 : Value).ownBlock ∧ some k_ ≠ (u126003 : Value).ownBlock) (.slice A83 y143.length c83) y143 := (by rw [hA83, hc83, hy83]; exact hr83)
                               have HE83 : Aside0 ((Value.slice A83 y143.length c83).ownBlock = (.slice (some ad141) x7_4.length co48 : Value).ownBlock) := ⟨by rw [hA83]; split <;> (cases ((some ad141) : Option Addr) <;> rfl)⟩
                               clear hy83 hi083 hsz83 HO_7 hA83 hc83
                               have HO145 := Aside0.mk hr83
                               clear hr83
                               replace q83 := eq_true q83
                               have n_ := Aside0.mk (Kd.R_mono (ok' := fun k_ => (some k_ ≠ (.slice A83 y143.length c83 : Value).ownBlock ∧ (some k_ ≠ (v133 : Value).ownBlock ∧ (some k_ ≠ (u126002 : Value).ownBlock ∧ some k_ ≠ (u126003 : Value).ownBlock)))) HO_8.out (fun k_ hk => ⟨(by rw [HE83.out]; exact hk.1), ⟨hk.2.1, ⟨hk.2.2.1, hk.2.2.2⟩⟩⟩))
                               clear HO_8
                               have HO_8 := n_
                               clear n_
                               have n_ := Aside0.mk (Kd.R_mono (ok' := fun k_ => (some k_ ≠ (.slice A83 y143.length c83 : Value).ownBlock ∧ (some k_ ≠ (v130 : Value).ownBlock ∧ (some k_ ≠ (u126002 : Value).ownBlock ∧ some k_ ≠ (u126003 : Value).ownBlock)))) HO_9.out (fun k_ hk => ⟨(by rw [HE83.out]; exact hk.1), ⟨hk.2.1, ⟨hk.2.2.1, hk.2.2.2⟩⟩⟩))
                               clear HO_9
                               have HO_9 := n_
                               clear n_
                               have n_ := Aside0.mk (Kd.R_mono (ok' := fun k_ => (some k_ ≠ (.slice A83 y143.length c83 : Value).ownBlock ∧ (some k_ ≠ (v130 : Value).ownBlock ∧ (some k_ ≠ (v133 : Value).ownBlock ∧ some k_ ≠ (u126003 : Value).ownBlock)))) HO_126002.out (fun k_ hk => ⟨(by rw [HE83.out]; exact hk.1), ⟨hk.2.1, ⟨hk.2.2.1, hk.2.2.2⟩⟩⟩))
                               clear HO_126002
                               have HO_126002 := n_
                               clear n_
                               have n_ := Aside0.mk (Kd.R_mono (ok' := fun k_ => (some k_ ≠ (.slice A83 y143.length c83 : Value).ownBlock ∧ (some k_ ≠ (v130 : Value).ownBlock ∧ (some k_ ≠ (v133 : Value).ownBlock ∧ some k_ ≠ (u126002 : Value).ownBlock)))) HO_126003.out (fun k_ hk => ⟨(by rw [HE83.out]; exact hk.1), ⟨hk.2.1, ⟨hk.2.2.1, hk.2.2.2⟩⟩⟩))
                               clear HO_126003
                               have HO_126003 := n_
                               clear n_
                               try go_wp2
                               have n0_ := Aside0.mk (Kd.Q_drew HO145.out)
                               have n1_ := Aside0.mk (q2d HO_8.out)
                               have n2_ := Aside0.mk (q2d HO_9.out)
                               have n3_ := Aside0.mk (q2d HO_126002.out)
                               have n4_ := Aside0.mk (q2d HO_126003.out)
                               have n5_ := Aside0.mk (q2D BK114.out)
                               have n6_ := Aside0.mk (q2D BK125.out)
                               have n7_ := Aside0.mk (q2e HB.out)
                               clear HO145
                               clear HO_8
                               clear HO_9
                               clear HO_126002
                               clear HO_126003
                               clear BK114
                               clear BK125
                               clear HB
                               have HO145 := n0_
                               have HO_8 := n1_
                               have HO_9 := n2_
                               have HO_126002 := n3_
                               have HO_126003 := n4_
                               have BK114 := n5_
                               have BK125 := n6_
                               have HB := n7_
                               clear n0_ n1_ n2_ n3_ n4_ n5_ n6_ n7_
                               obtain ⟨Ao85, co85, eo85⟩ := Kd.R_slice HO_8.out
                               (first | subst eo85 | (injection eo85 with f1_ f2_ f3_; have f4_ := f1_.symm; have f5_ := f3_.symm; clear f1_ f2_ f3_; subst f4_; subst f5_))
                               have p146 : 0 ≤ ((rd l1 (rd x7_4 0)) : Int) := of_decide_eq_true (by first | (with_reducible assumption) | assumption)
                               have q146 : (rd l1 (rd x7_4 0)) < (x8_5.length : Int) := of_decide_eq_true (by first | (with_reducible assumption) | assumption)
                               obtain ⟨ad146, e146, hx146_0⟩ := Kd.at_int (Kd.R_reads' HO_8.out).2.2 (rd l1 (rd x7_4 0)) p146 q146
                               cases e146
                               replace p146 := eq_true p146
                               replace q146 := eq_true q146
                               have p147 : 0 ≤ ((rd l1 (rd x7_4 0)) : Int) := of_decide_eq_true (by first | (with_reducible assumption) | assumption)
                               have q147 : (rd l1 (rd x7_4 0)) < (l0.length : Int) := of_decide_eq_true (by first | (with_reducible assumption) | assumption)
                               obtain ⟨ad147, e147, hx147_0, hx147_1⟩ := at_T32 HR0.out (rd l1 (rd x7_4 0)) p147 q147
                               have hw147_1 := hx147_1
                               have hw147_0 := hx147_0
                               cases e147
                               replace hx147_0 := (HB.out.cell (World.block_lt_of_cell? w _ hx147_0)).trans hx147_0
                               replace hx147_1 := (HB.out.cell (World.block_lt_of_cell? w _ hx147_1)).trans hx147_1
                               replace p147 := eq_true p147
                               replace q147 := eq_true q147
                               refine start_ (n := 11) (S := fun w' => w'.cell? (ad146.add ((rd l1 (rd x7_4 0))).toNat) = some (.int .i64 (rd x8_5 (rd l1 (rd x7_4 0)))) ∧ w'.cell? (ad147.add (((rd l1 (rd x7_4 0))).toNat * 2)) = some (.int .i64 ((rd_T32 l0 (rd l1 (rd x7_4 0))).f0)) ∧ w'.cell? ⟨(ad147.add (((rd l1 (rd x7_4 0))).toNat * 2)).block, (ad147.add (((rd l1 (rd x7_4 0))).toNat * 2)).off + 1, none⟩ = some (.int .i64 ((rd_T32 l0 (rd l1 (rd x7_4 0))).f1))) (ds := []) b2A4 (by kernel_rfl) rfl rfl ⟨hx146_0, ((HB.out.cell (World.block_lt_of_cell? w _ hw147_0)).trans hw147_0), ((HB.out.cell (World.block_lt_of_cell? w _ hw147_1)).trans hw147_1)⟩ (fun hHeld => ?_); refine with_tabW impl_SortRun.tab30 impl_SortRun.bits30 (fun HT_ HW_ => ?_)
                               generalize wr.drew = w84 at HO145 HO_8 HO_9 HO_126002 HO_126003 BK114 BK125 HB hx146_0 hx147_0 hx147_1 hHeld ⊢
                               refine pure_ (i := 0) (N := some 117) (v := ?_) (a' := ?_) b2A5 rfl rfl (any_of HT_.out (by kernel_rfl)) (fun _ _ _ h => h) (Or.inl ⟨by rfl, ?_⟩) ?_ ?_
                               rotate_left
                               ·intro w'
                                go_simp
                                with_reducible rfl
                               rotate_left
                               ·simp only [Act.put, List.setIfInBounds_toArray, List.set_cons_zero, List.set_cons_succ, i64_w, i32_w]
                                rfl
                               refine pure_ (i := 1) (N := some 118) (v := ?_) (a' := ?_) b2A6 rfl rfl (any_of HT_.out (by kernel_rfl)) (fun _ _ _ h => h) (Or.inl ⟨by rfl, ?_⟩) ?_ ?_
                               rotate_left
                               ·intro w'
                                go_simp
                                with_reducible rfl
                               rotate_left
                               ·simp only [Act.put, List.setIfInBounds_toArray, List.set_cons_zero, List.set_cons_succ, i64_w, i32_w]
                                rfl
                               refine pure_ (i := 2) (N := some 119) (v := ?_) (a' := ?_) b2A7 rfl rfl (any_of HT_.out (by kernel_rfl)) (fun _ _ _ h => h) (Or.inl ⟨by rfl, ?_⟩) ?_ ?_
                               rotate_left
                               ·intro w'
                                go_simp
                                with_reducible rfl
                               rotate_left
                               ·simp only [Act.put, List.setIfInBounds_toArray, List.set_cons_zero, List.set_cons_succ, i64_w, i32_w]
                                rfl
                               refine pure_ (i := 4) (N := some 121) (v := ?_) (a' := ?_) b2A8 rfl rfl (any_of HT_.out (by kernel_rfl)) (fun _ _ _ h => h) (Or.inl ⟨by rfl, ?_⟩) ?_ ?_
                               rotate_left
                               ·intro w'
                                go_simp
                                with_reducible rfl
                               rotate_left
                               ·simp only [Act.put, List.setIfInBounds_toArray, List.set_cons_zero, List.set_cons_succ, i64_w, i32_w]
                                rfl
                               refine pure_ (i := 5) (N := some 122) (v := ?_) (a' := ?_) b2A9 rfl rfl (any_of HT_.out (by kernel_rfl)) (fun _ _ _ h => h) (Or.inl ⟨by rfl, ?_⟩) ?_ ?_
                               rotate_left
                               ·intro w'
                                go_simp
                                with_reducible rfl
                               rotate_left
                               ·simp only [Act.put, List.setIfInBounds_toArray, List.set_cons_zero, List.set_cons_succ, i64_w, i32_w]
                                rfl
                               refine pure_ (i := 6) (N := some 123) (v := ?_) (a' := ?_) b2A10 rfl rfl (any_of HT_.out (by kernel_rfl)) (fun _ _ _ h => h) (Or.inl ⟨by rfl, ?_⟩) ?_ ?_
                               rotate_left
                               ·intro w'
                                go_simp
                                with_reducible rfl
                               rotate_left
                               ·simp only [Act.put, List.setIfInBounds_toArray, List.set_cons_zero, List.set_cons_succ, i64_w, i32_w]
                                rfl
                               refine pure_ (i := 7) (N := some 124) (v := ?_) (a' := ?_) b2A11 rfl rfl (any_of HT_.out (by kernel_rfl)) (fun _ _ _ h => h) (Or.inl ⟨by rfl, ?_⟩) ?_ ?_
                               rotate_left
                               ·intro w'
                                go_simp
                                with_reducible rfl
                               rotate_left
                               ·simp only [Act.put, List.setIfInBounds_toArray, List.set_cons_zero, List.set_cons_succ, i64_w, i32_w]
                                rfl
                               refine take_ (i := 3) (N := some 120) (v := ?_) (a' := ?_) b2A12 rfl rfl (take_ofW HT_.out HW_.out (by kernel_rfl)) (fun _ _ _ h => h) (Or.inl ⟨by rfl, ?_⟩) hHeld ?_ ?_
                               rotate_left
                               ·rintro w' ⟨s0, s1, s2⟩
                                go_simp
                                with_reducible rfl
                               rotate_left
                               ·simp only [Act.put, List.setIfInBounds_toArray, List.set_cons_zero, List.set_cons_succ, i64_w, i32_w]
                                rfl
                               refine take_ (i := 8) (N := some 125) (v := ?_) (a' := ?_) b2A13 rfl rfl (take_ofW HT_.out HW_.out (by kernel_rfl)) (fun _ _ _ h => h) (Or.inl ⟨by rfl, ?_⟩) hHeld ?_ ?_
                               rotate_left
                               ·rintro w' ⟨s0, s1, s2⟩
                                go_simp
                                with_reducible rfl
                               rotate_left
                               ·simp only [Act.put, List.setIfInBounds_toArray, List.set_cons_zero, List.set_cons_succ, i64_w, i32_w]
                                rfl
                               refine pure_ (i := 9) (N := some 126) (v := ?_) (a' := ?_) b2A14 rfl rfl (any_of HT_.out (by kernel_rfl)) (fun _ _ _ h => h) (Or.inl ⟨by rfl, ?_⟩) ?_ ?_
                               rotate_left
                               ·intro w'
                                go_simp
                                with_reducible rfl
                               rotate_left
                               ·simp only [Act.put, List.setIfInBounds_toArray, List.set_cons_zero, List.set_cons_succ, i64_w, i32_w]
                                rfl
                               refine pure_ (i := 10) (N := some 116) (v := ?_) (a' := ?_) b2A15 rfl rfl (any_of HT_.out (by kernel_rfl)) (fun _ _ _ h => h) (Or.inl ⟨by rfl, ?_⟩) ?_ ?_
                               rotate_left
                               ·intro w'
                                go_simp
                                with_reducible rfl
                               rotate_left
                               ·simp only [Act.put, List.setIfInBounds_toArray, List.set_cons_zero, List.set_cons_succ, i64_w, i32_w]
                                rfl
                               refine done_ (done_of HT_.out (by kernel_rfl)) ?_
                               have p148 : 0 ≤ ((rd l1 (rd x7_4 0)) : Int) := of_decide_eq_true (by first | (with_reducible assumption) | assumption)
                               have q148 : (rd l1 (rd x7_4 0)) < (x8_5.length : Int) := of_decide_eq_true (by first | (with_reducible assumption) | assumption)
                               obtain ⟨ad148, e148, hx148_0⟩ := Kd.at_int (Kd.R_reads' HO_8.out).2.2 (rd l1 (rd x7_4 0)) p148 q148
                               obtain rfl : ad146 = ad148 := (by injection e148)
                               replace p148 := eq_true p148
                               replace q148 := eq_true q148
                               have p80 : 0 ≤ ((rd l1 (rd x7_4 0)) : Int) := of_decide_eq_true (by first | (with_reducible assumption) | assumption)
                               have q80 : ((rd l1 (rd x7_4 0)) : Int) < ((x8_5.length : Int) : Int) := of_decide_eq_true (by first | (with_reducible assumption) | assumption)
                               obtain ⟨go80, co80, eo80, gb80, gl80, cl80, HG80⟩ := Kd.R_form HO_8.out (by omega)
                               (first | cases eo80 | (injection eo80 with ea_ en_ ec_; (first | subst ea_ | (injection ea_ with ea_; subst ea_)); subst ec_; clear en_))
                               have GB80 := Aside0.mk gb80
                               have GG80 := Aside0.mk HG80
                               clear gb80 gl80 HG80
                               (first | simp only [add_plain] at hx146_0 | skip)
                               (first | simp only [add_plain] at hx148_0 | skip)
                               obtain ⟨hx80_0, hf80_0⟩ := Kd.R_celln 0 HO_8.out ((rd l1 (rd x7_4 0)) : Int) p80 q80
                               replace p80 := eq_true p80
                               replace q80 := eq_true q80
                               obtain ⟨hy86_, hz86_⟩ := Kd.R_celln 0 HO_8.out ((rd l1 (rd x7_4 0)) : Int) (of_decide_eq_true (by first | (with_reducible assumption) | assumption)) (of_decide_eq_true (by first | (with_reducible assumption) | assumption))
                               have HP86 := Kd.R_putg HO_8.out ((rd l1 (rd x7_4 0)) : Int) (wrap64 ((rd x8_5 (rd l1 (rd x7_4 0))) + 1))
                               try go_wp2_with (first | ((with_reducible refine gate_store (t := 3) (p := 132) rfl ?_); refine store_event (t := 3) (p := 132) (v := ?vo_w87) (w1 := (w84.setCell ⟨go80, ((rd l1 (rd x7_4 0)) : Int).toNat, none⟩ (.int .i64 (wrap64 ((rd x8_5 (rd l1 (rd x7_4 0))) + 1))))) ?hg ?ho ?hn ?hr ?_; (case ho => rfl); (case hg => rfl); (case hn => rfl); (case hr => first | (go_simp; done) | (go_simp; rfl)); intro w87 hw; have hg : w84.grownBy w87 (some go80) := (by rw [hw]; exact HP86.2); have hp_ : Kd.R (Kd.int .i64) 3 w87 w.heap.size (fun k_ => some k_ ≠ (.slice A83 y143.length c83 : Value).ownBlock ∧ some k_ ≠ (v133 : Value).ownBlock ∧ some k_ ≠ (u126002 : Value).ownBlock ∧ some k_ ≠ (u126003 : Value).ownBlock) (.slice (some ⟨go80, 0, none⟩) x8_5.length co85) y149 := (by rw [hw, Ny149.out]; exact HP86.1); clear HP86; have n0_ := Aside0.mk (Kd.Q_after (v := (.slice (some ⟨go80, 0, none⟩) x8_5.length co85)) (v1 := (.slice (some ⟨go80, 0, none⟩) x8_5.length co85)) (ok := (fun k_ => some k_ ≠ (v133 : Value).ownBlock ∧ some k_ ≠ (u126002 : Value).ownBlock ∧ some k_ ≠ (u126003 : Value).ownBlock)) (by (with_reducible repeat (first | apply Kd.Q_alloc | apply Kd.Q_drewN | apply Kd.Q_drew)); exact Kd.Q_mono HO145.out (fun _ hk => ⟨⟨hk.2.1, ⟨hk.2.2.1, hk.2.2.2⟩⟩, hk.1⟩)) hg (.inl rfl)); have n1_ := Aside0.mk (hp_); have n2_ := Aside0.mk (Kd.R_after (v := (.slice (some ⟨go80, 0, none⟩) x8_5.length co85)) (v1 := (.slice (some ⟨go80, 0, none⟩) x8_5.length co85)) (ok := (fun k_ => some k_ ≠ (.slice A83 y143.length c83 : Value).ownBlock ∧ some k_ ≠ (u126002 : Value).ownBlock ∧ some k_ ≠ (u126003 : Value).ownBlock)) (by (with_reducible repeat (first | apply q2a | apply q2n | apply q2d)); exact Kd.R_mono HO_9.out (fun _ hk => ⟨⟨hk.1, ⟨hk.2.2.1, hk.2.2.2⟩⟩, hk.2.1⟩)) hg (.inl rfl)); have n3_ := Aside0.mk (Kd.R_after (v := (.slice (some ⟨go80, 0, none⟩) x8_5.length co85)) (v1 := (.slice (some ⟨go80, 0, none⟩) x8_5.length co85)) (ok := (fun k_ => some k_ ≠ (.slice A83 y143.length c83 : Value).ownBlock ∧ some k_ ≠ (v133 : Value).ownBlock ∧ some k_ ≠ (u126003 : Value).ownBlock)) (by (with_reducible repeat (first | apply q2a | apply q2n | apply q2d)); exact Kd.R_mono HO_126002.out (fun _ hk => ⟨⟨hk.1, ⟨hk.2.2.1, hk.2.2.2⟩⟩, hk.2.1⟩)) hg (.inl rfl)); have n4_ := Aside0.mk (Kd.R_after (v := (.slice (some ⟨go80, 0, none⟩) x8_5.length co85)) (v1 := (.slice (some ⟨go80, 0, none⟩) x8_5.length co85)) (ok := (fun k_ => some k_ ≠ (.slice A83 y143.length c83 : Value).ownBlock ∧ some k_ ≠ (v133 : Value).ownBlock ∧ some k_ ≠ (u126002 : Value).ownBlock)) (by (with_reducible repeat (first | apply q2a | apply q2n | apply q2d)); exact Kd.R_mono HO_126003.out (fun _ hk => ⟨⟨hk.1, ⟨hk.2.2.1, hk.2.2.2⟩⟩, hk.2.1⟩)) hg (.inl rfl)); have n5_ := Aside0.mk (blk_grown (g := gb114) (o := .cells #[.int .i64 0, .int .i64 0, .slice none 0 0, .slice none 0 0] 28 (0, 0)) (by (with_reducible repeat (first | refine q2N ?_ _ | refine q2D ?_ | refine q2A ?_ _)); exact BK114.out) hg (Kd.R_ne HO_8.out BK114.out (by decide))); have n6_ := Aside0.mk (blk_grown (g := gb125) (o := .cells #[.int .i64 x126000_4, .int .i64 x126001_4, u126002, u126003] 28 (0, 0)) (by (with_reducible repeat (first | refine q2N ?_ _ | refine q2D ?_ | refine q2A ?_ _)); exact BK125.out) hg (Kd.R_ne HO_8.out BK125.out (by decide))); have n7_ := Aside0.mk ((by rw [hw]; exact below_set (HB.out) GB80.out : Below w.heap.size w w87)); clear HO145; clear HO_8; clear HO_9; clear HO_126002; clear HO_126003; clear BK114; clear BK125; clear HB; have HO145 := n0_; have HO_8 := n1_; have HO_9 := n2_; have HO_126002 := n3_; have HO_126003 := n4_; have BK114 := n5_; have BK125 := n6_; have HB := n7_; clear n0_ n1_ n2_ n3_ n4_ n5_ n6_ n7_; clear hg hw hp_; have hnb88 := NB125_114.out; have hnc88 := NB114_125.out; have hcz89_0 : w87.cell? ⟨gb125, 0, none⟩ = some (.int .i64 x126000_4) := (blk_cell BK125.out 0).trans rfl; have hcz89_1 : w87.cell? ⟨gb125, 1, none⟩ = some (.int .i64 x126001_4) := (blk_cell BK125.out 1).trans rfl; have hcz89_2 : w87.cell? ⟨gb125, 2, none⟩ = some (u126002) := (blk_cell BK125.out 2).trans rfl; have hcz89_3 : w87.cell? ⟨gb125, 3, none⟩ = some (u126003) := (blk_cell BK125.out 3).trans rfl; have hfz89_0 := blk_frozen BK125.out 0; have hfz89_1 := blk_frozen BK125.out 1; have hfz89_2 := blk_frozen BK125.out 2; have hfz89_3 := blk_frozen BK125.out 3; have p82 : 0 ≤ ((rd x7_4 0) : Int) := of_decide_eq_true (by first | (with_reducible assumption) | assumption); have q82 : ((rd x7_4 0) : Int) < ((x126002_4.length : Int) : Int) := of_decide_eq_true (by first | (with_reducible assumption) | assumption); obtain ⟨go82, co82, eo82, gb82, gl82, cl82, HG82⟩ := Kd.R_form HO_126002.out (by omega); (first | cases eo82 | (injection eo82 with ea_ en_ ec_; (first | subst ea_ | (injection ea_ with ea_; subst ea_)); subst ec_; clear en_)); have GB82 := Aside0.mk gb82; have GG82 := Aside0.mk HG82; clear gb82 gl82 HG82; obtain ⟨hx82_0, hf82_0⟩ := Kd.R_celln 0 HO_126002.out ((rd x7_4 0) : Int) p82 q82; replace p82 := eq_true p82; replace q82 := eq_true q82; have n_ := Aside0.mk (Kd.R_mono (ok' := (fun k_ => some k_ ≠ (.slice A83 y143.length c83 : Value).ownBlock ∧ some k_ ≠ (.slice (some ⟨go80, 0, none⟩) x8_5.length co85 : Value).ownBlock ∧ some k_ ≠ (v133 : Value).ownBlock ∧ some k_ ≠ (u126003 : Value).ownBlock)) HO_126002.out (fun k_ hk => ⟨hk.1.1, ⟨hk.2, ⟨hk.1.2.1, hk.1.2.2⟩⟩⟩)); clear HO_126002; have HO_126002 := n_; clear n_; obtain ⟨hy90_, hz90_⟩ := Kd.R_celln 0 HO_126002.out ((rd x7_4 0) : Int) (of_decide_eq_true (by first | (with_reducible assumption) | assumption)) (of_decide_eq_true (by first | (with_reducible assumption) | assumption)); have HP90 := Kd.R_putg HO_126002.out ((rd x7_4 0) : Int) x126000_4) | ((with_reducible refine gate_store (t := 3) (p := 138) rfl ?_); refine store_event (t := 3) (p := 138) (v := ?vo_w91) (w1 := (w87.setCell ⟨go82, ((rd x7_4 0) : Int).toNat, none⟩ (.int .i64 x126000_4))) ?hg ?ho ?hn ?hr ?_; (case ho => rfl); (case hg => rfl); (case hn => rfl); (case hr => first | (go_simp; done) | (go_simp; rfl)); intro w91 hw; have hg : w87.grownBy w91 (some go82) := (by rw [hw]; exact HP90.2); have hp_ : Kd.R (Kd.int .i64) 3 w91 w.heap.size (fun k_ => some k_ ≠ (.slice A83 y143.length c83 : Value).ownBlock ∧ some k_ ≠ (.slice (some ⟨go80, 0, none⟩) x8_5.length co85 : Value).ownBlock ∧ some k_ ≠ (v133 : Value).ownBlock ∧ some k_ ≠ (u126003 : Value).ownBlock) (.slice (some ⟨go82, 0, none⟩) x126002_4.length co82) y150 := (by rw [hw, Ny150.out]; exact HP90.1); clear HP90; have n0_ := Aside0.mk (Kd.Q_after (v := (.slice (some ⟨go82, 0, none⟩) x126002_4.length co82)) (v1 := (.slice (some ⟨go82, 0, none⟩) x126002_4.length co82)) (ok := (fun k_ => some k_ ≠ (.slice (some ⟨go80, 0, none⟩) x8_5.length co85 : Value).ownBlock ∧ some k_ ≠ (v133 : Value).ownBlock ∧ some k_ ≠ (u126003 : Value).ownBlock)) (by (with_reducible repeat (first | apply Kd.Q_alloc | apply Kd.Q_drewN | apply Kd.Q_drew)); exact Kd.Q_mono HO145.out (fun _ hk => ⟨⟨hk.2, ⟨hk.1.1, hk.1.2.2⟩⟩, hk.1.2.1⟩)) hg (.inl rfl)); have n1_ := Aside0.mk (Kd.R_after (v := (.slice (some ⟨go82, 0, none⟩) x126002_4.length co82)) (v1 := (.slice (some ⟨go82, 0, none⟩) x126002_4.length co82)) (ok := (fun k_ => some k_ ≠ (.slice A83 y143.length c83 : Value).ownBlock ∧ some k_ ≠ (v133 : Value).ownBlock ∧ some k_ ≠ (u126003 : Value).ownBlock)) (by (with_reducible repeat (first | apply q2a | apply q2n | apply q2d)); exact Kd.R_mono HO_8.out (fun _ hk => ⟨⟨hk.1, ⟨hk.2.1, hk.2.2.2⟩⟩, hk.2.2.1⟩)) hg (.inl rfl)); have n2_ := Aside0.mk (Kd.R_after (v := (.slice (some ⟨go82, 0, none⟩) x126002_4.length co82)) (v1 := (.slice (some ⟨go82, 0, none⟩) x126002_4.length co82)) (ok := (fun k_ => some k_ ≠ (.slice A83 y143.length c83 : Value).ownBlock ∧ some k_ ≠ (.slice (some ⟨go80, 0, none⟩) x8_5.length co85 : Value).ownBlock ∧ some k_ ≠ (u126003 : Value).ownBlock)) (by (with_reducible repeat (first | apply q2a | apply q2n | apply q2d)); exact Kd.R_mono HO_9.out (fun _ hk => ⟨⟨hk.1.1, ⟨hk.2, hk.1.2.2⟩⟩, hk.1.2.1⟩)) hg (.inl rfl)); have n3_ := Aside0.mk (hp_); have n4_ := Aside0.mk (Kd.R_after (v := (.slice (some ⟨go82, 0, none⟩) x126002_4.length co82)) (v1 := (.slice (some ⟨go82, 0, none⟩) x126002_4.length co82)) (ok := (fun k_ => some k_ ≠ (.slice A83 y143.length c83 : Value).ownBlock ∧ some k_ ≠ (.slice (some ⟨go80, 0, none⟩) x8_5.length co85 : Value).ownBlock ∧ some k_ ≠ (v133 : Value).ownBlock)) (by (with_reducible repeat (first | apply q2a | apply q2n | apply q2d)); exact Kd.R_mono HO_126003.out (fun _ hk => ⟨⟨hk.1.1, ⟨hk.2, hk.1.2.1⟩⟩, hk.1.2.2⟩)) hg (.inl rfl)); have n5_ := Aside0.mk (blk_grown (g := gb114) (o := .cells #[.int .i64 0, .int .i64 0, .slice none 0 0, .slice none 0 0] 28 (0, 0)) (by (with_reducible repeat (first | refine q2N ?_ _ | refine q2D ?_ | refine q2A ?_ _)); exact BK114.out) hg (Kd.R_ne HO_126002.out BK114.out (by decide))); have n6_ := Aside0.mk (blk_grown (g := gb125) (o := .cells #[.int .i64 x126000_4, .int .i64 x126001_4, .slice (some ⟨go82, 0, none⟩) x126002_4.length co82, u126003] 28 (0, 0)) (by (with_reducible repeat (first | refine q2N ?_ _ | refine q2D ?_ | refine q2A ?_ _)); exact BK125.out) hg (Kd.R_ne HO_126002.out BK125.out (by decide))); have n7_ := Aside0.mk ((by rw [hw]; exact below_set (HB.out) GB82.out : Below w.heap.size w w91)); clear HO145; clear HO_8; clear HO_9; clear HO_126002; clear HO_126003; clear BK114; clear BK125; clear HB; have HO145 := n0_; have HO_8 := n1_; have HO_9 := n2_; have HO_126002 := n3_; have HO_126003 := n4_; have BK114 := n5_; have BK125 := n6_; have HB := n7_; clear n0_ n1_ n2_ n3_ n4_ n5_ n6_ n7_; clear hg hw hp_; have hcz92_0 : w91.cell? ⟨gb125, 0, none⟩ = some (.int .i64 x126000_4) := (blk_cell BK125.out 0).trans rfl; have hcz92_1 : w91.cell? ⟨gb125, 1, none⟩ = some (.int .i64 x126001_4) := (blk_cell BK125.out 1).trans rfl; have hcz92_2 : w91.cell? ⟨gb125, 2, none⟩ = some (.slice (some ⟨go82, 0, none⟩) x126002_4.length co82) := (blk_cell BK125.out 2).trans rfl; have hcz92_3 : w91.cell? ⟨gb125, 3, none⟩ = some (u126003) := (blk_cell BK125.out 3).trans rfl; have hfz92_0 := blk_frozen BK125.out 0; have hfz92_1 := blk_frozen BK125.out 1; have hfz92_2 := blk_frozen BK125.out 2; have hfz92_3 := blk_frozen BK125.out 3))
                               go_roundg k5
                               case measure => have := HJ2.out; have := HJ9.out; have := HK3.out; have := HK4.out; have := HK5.out; omega
                               case rel => exact ⟨(y143), (y149), (x9_4), (wrap64 (x126000_4 + 1)), (x126001_4), (y150), (x126003_4), (.slice (some ⟨go82, 0, none⟩) x126002_4.length co82), (u126003), H', ⟨by have := HJ2.out; have := HJ9.out; have := HK3.out; have := HK4.out; have := HK5.out; omega⟩, ⟨by (with_reducible repeat (first | apply Kd.Q_alloc | apply Kd.Q_drewN | apply Kd.Q_drew)); exact Kd.Q_mono (Kd.Q_far (p := ⟨gb125, 0, none⟩) (Kd.Q_types HO145.out BK125.out (by decide)) (fun _ hk => hk.2) (.int .i64 (wrap64 (x126000_4 + 1)))) (fun _ hk => ⟨hk.1.1.1, ⟨hk.1.1.2.1, ⟨hk.1.2, hk.1.1.2.2⟩⟩⟩)⟩, ⟨by (with_reducible repeat (first | apply q2a | apply q2n | apply q2d)); exact Kd.R_mono (Kd.R_far (p := ⟨gb125, 0, none⟩) (Kd.R_types HO_8.out BK125.out (by decide)) (fun _ hk => hk.2) (.int .i64 (wrap64 (x126000_4 + 1)))) (fun _ hk => ⟨hk.1.1.1, ⟨hk.1.1.2.1, ⟨hk.1.2, hk.1.1.2.2⟩⟩⟩)⟩, ⟨by (with_reducible repeat (first | apply q2a | apply q2n | apply q2d)); exact Kd.R_mono (Kd.R_far (p := ⟨gb125, 0, none⟩) (Kd.R_types HO_9.out BK125.out (by decide)) (fun _ hk => hk.2) (.int .i64 (wrap64 (x126000_4 + 1)))) (fun _ hk => ⟨hk.1.1.1, ⟨hk.1.1.2.1, ⟨hk.1.2, hk.1.1.2.2⟩⟩⟩)⟩, ⟨by (with_reducible repeat (first | apply q2a | apply q2n | apply q2d)); exact Kd.R_mono (Kd.R_far (p := ⟨gb125, 0, none⟩) (Kd.R_types HO_126002.out BK125.out (by decide)) (fun _ hk => hk.2) (.int .i64 (wrap64 (x126000_4 + 1)))) (fun _ hk => ⟨hk.1.1, ⟨hk.1.2.1, ⟨hk.1.2.2.1, hk.1.2.2.2⟩⟩⟩)⟩, ⟨by (with_reducible repeat (first | apply q2a | apply q2n | apply q2d)); exact Kd.R_mono (Kd.R_far (p := ⟨gb125, 0, none⟩) (Kd.R_types HO_126003.out BK125.out (by decide)) (fun _ hk => hk.2) (.int .i64 (wrap64 (x126000_4 + 1)))) (fun _ hk => ⟨hk.1.1.1, ⟨hk.1.1.2.1, ⟨hk.1.1.2.2, hk.1.2⟩⟩⟩)⟩, ⟨by (with_reducible repeat (first | refine q2N ?_ _ | refine q2D ?_ | refine q2A ?_ _)); refine blk_far ?_ NB114_125.out _; (with_reducible repeat (first | refine q2N ?_ _ | refine q2D ?_ | refine q2A ?_ _)); exact BK114.out⟩, ⟨by (with_reducible repeat (first | refine q2N ?_ _ | refine q2D ?_ | refine q2A ?_ _)); refine blk_put (cs := #[.int .i64 x126000_4, .int .i64 x126001_4, .slice (some ⟨go82, 0, none⟩) x126002_4.length co82, u126003]) ?_ 0 _ rfl; (with_reducible repeat (first | refine q2N ?_ _ | refine q2D ?_ | refine q2A ?_ _)); exact BK125.out⟩, ⟨by repeat (first | (with_reducible first | exact HB.out | apply q2l | apply q2w | apply q2e | refine below_set ?_ GE114.out | refine below_set ?_ GE125.out) | exact HB.out)⟩⟩
                              ·rw [if_neg c81] at H
                               exact absurd H (by simp)
                             ·rw [if_neg c79] at H
                              have c79b0 : decide ((rd x8_5 (rd l1 (rd x7_4 0))) < ((rd_T32 l0 (rd l1 (rd x7_4 0))).f0)) = false := decide_eq_false c79
                              clear c79
                              by_cases c93 : (rd x7_4 0) < (x9_4.length : Int)
                              ·rw [if_pos c93] at H
                               have c93b0 : decide ((rd x7_4 0) < (x9_4.length : Int)) = true := decide_eq_true c93
                               clear c93
                               by_cases c94 : (rd x9_4 (rd x7_4 0)) = 3
                               ·rw [if_pos c94] at H
                                have c94b0 : ((rd x9_4 (rd x7_4 0)) == 3) = true := beq_iff_eq.mpr c94
                                have c94b1 : ((rd x9_4 (rd x7_4 0)) != 3) = false := bne_eq_false_iff_eq.mpr c94
                                clear c94
                                by_cases c95 : x126003_4.length < 17592186044416
                                ·rw [if_pos c95] at H
                                 have LMc95 := Aside0.mk c95
                                 clear c95
                                 obtain ⟨y152, hy152⟩ : ∃ y_ : List Int, y_ = (x126003_4 ++ [rd x7_4 0]) := ⟨_, rfl⟩
                                 replace H : (impl_SortRun.l1 k5 l0 l1 y143 x8_5 x9_4 (wrap64 (x126000_4 + 1)) x126001_4 x126002_4 y152) = some (r1, r2, r3, r4, r5) := by first | (rw [hy152]; with_reducible exact H) | (have H2_ := (Option.bind_some _ _).symm.trans H; rw [hy152]; with_reducible exact H2_) | (have H2_ := (Option.bind_some _ _).symm.trans H; with_reducible exact H2_) | with_reducible exact H | (rw [hy152]; exact H) | exact H
                                 have Ny152 := Aside0.mk hy152
                                 clear hy152
                                 have H' := Aside0.mk H
                                 clear H
                                 have p141 : 0 ≤ (0 : Int) := (by omega)
                                 have q141 : 0 < (x7_4.length : Int) := of_decide_eq_true (by first | (with_reducible assumption) | assumption)
                                 obtain ⟨ad141, e141, hx141_0⟩ := Kd.at_int (Kd.Q_reads' HO_7.out).2.2 0 p141 q141
                                 cases e141
                                 have qi141 : (0 < x7_4.length) = True := eq_true (by omega)
                                 (try rw [show ((0 : Int)).toNat = 0 from rfl] at hx141_0)
                                 (try rw [Addr.add_zero'] at hx141_0)
                                 replace p141 := eq_true p141
                                 replace q141 := eq_true q141
                                 have p142 : 0 ≤ ((rd x7_4 0) : Int) := of_decide_eq_true (by first | (with_reducible assumption) | assumption)
                                 have q142 : (rd x7_4 0) < (l1.length : Int) := of_decide_eq_true (by first | (with_reducible assumption) | assumption)
                                 obtain ⟨ad142, e142, hx142_0⟩ := Kd.at_int HR1.out (rd x7_4 0) p142 q142
                                 cases e142
                                 replace hx142_0 := (HB.out.cell (World.block_lt_of_cell? w _ hx142_0)).trans hx142_0
                                 replace p142 := eq_true p142
                                 replace q142 := eq_true q142
                                 have q96 : (1 : Int) ≤ ((x7_4.length : Int) : Int) := of_decide_eq_true (by first | (with_reducible assumption) | assumption)
                                 obtain ⟨i096, hi096, _, hsz96, _⟩ := info_parts info3
                                 have hcut96 := cut_from (P := Try.prog) 24 3 .i64 Try.underlying24 hi096 1 hsz96 (some ad141) x7_4.length co48 1 (by omega) q96
                                 have hr96 := Kd.Q_drop (k := (1 : Int).toNat) HO_7.out (by omega)
                                 obtain ⟨A96, hA96⟩ : ∃ A1, A1 = (if co48 = (1 : Int).toNat then (some ad141) else ((some ad141) : Option Addr).map (·.add ((1 : Int).toNat * 1))) := ⟨_, rfl⟩
                                 obtain ⟨c96, hc96⟩ : ∃ c1, c1 = co48 - (1 : Int).toNat := ⟨_, rfl⟩
                                 have hy96 : y143.length = x7_4.length - (1 : Int).toNat := (by rw [Ny143.out, List.length_drop])
                                 rw [← Ny143.out] at hr96
                                 rw [← hy96, ← hA96, ← hc96] at hcut96
                                 replace hr96 : Kd.Q (Kd.int .i64) 3 wr w.heap.size (fun k_ => some k_ ≠ (v130 : Value).ownBlock ∧ some k_ ≠ (v133 : Value).ownBlock ∧ some k_ ≠ (u126002 : Value).ownBlock ∧ some k_ ≠ (u126003 : Value).ownBlock) (.slice A96 y143.length c96) y143 := (by rw [hA96, hc96, hy96]; exact hr96)
                                 have HE96 : Aside0 ((Value.slice A96 y143.length c96).ownBlock = (.slice (some ad141) x7_4.length co48 : Value).ownBlock) := ⟨by rw [hA96]; split <;> (cases ((some ad141) : Option Addr) <;> rfl)⟩
                                 clear hy96 hi096 hsz96 HO_7 hA96 hc96
                                 have HO145 := Aside0.mk hr96
                                 clear hr96
                                 replace q96 := eq_true q96
                                 have n_ := Aside0.mk (Kd.R_mono (ok' := fun k_ => (some k_ ≠ (.slice A96 y143.length c96 : Value).ownBlock ∧ (some k_ ≠ (v133 : Value).ownBlock ∧ (some k_ ≠ (u126002 : Value).ownBlock ∧ some k_ ≠ (u126003 : Value).ownBlock)))) HO_8.out (fun k_ hk => ⟨(by rw [HE96.out]; exact hk.1), ⟨hk.2.1, ⟨hk.2.2.1, hk.2.2.2⟩⟩⟩))
                                 clear HO_8
                                 have HO_8 := n_
                                 clear n_
                                 have n_ := Aside0.mk (Kd.R_mono (ok' := fun k_ => (some k_ ≠ (.slice A96 y143.length c96 : Value).ownBlock ∧ (some k_ ≠ (v130 : Value).ownBlock ∧ (some k_ ≠ (u126002 : Value).ownBlock ∧ some k_ ≠ (u126003 : Value).ownBlock)))) HO_9.out (fun k_ hk => ⟨(by rw [HE96.out]; exact hk.1), ⟨hk.2.1, ⟨hk.2.2.1, hk.2.2.2⟩⟩⟩))
                                 clear HO_9
                                 have HO_9 := n_
                                 clear n_
                                 have n_ := Aside0.mk (Kd.R_mono (ok' := fun k_ => (some k_ ≠ (.slice A96 y143.length c96 : Value).ownBlock ∧ (some k_ ≠ (v130 : Value).ownBlock ∧ (some k_ ≠ (v133 : Value).ownBlock ∧ some k_ ≠ (u126003 : Value).ownBlock)))) HO_126002.out (fun k_ hk => ⟨(by rw [HE96.out]; exact hk.1), ⟨hk.2.1, ⟨hk.2.2.1, hk.2.2.2⟩⟩⟩))
                                 clear HO_126002
                                 have HO_126002 := n_
                                 clear n_
                                 have n_ := Aside0.mk (Kd.R_mono (ok' := fun k_ => (some k_ ≠ (.slice A96 y143.length c96 : Value).ownBlock ∧ (some k_ ≠ (v130 : Value).ownBlock ∧ (some k_ ≠ (v133 : Value).ownBlock ∧ some k_ ≠ (u126002 : Value).ownBlock)))) HO_126003.out (fun k_ hk => ⟨(by rw [HE96.out]; exact hk.1), ⟨hk.2.1, ⟨hk.2.2.1, hk.2.2.2⟩⟩⟩))
                                 clear HO_126003
                                 have HO_126003 := n_
                                 clear n_
                                 try go_wp2
                                 have n0_ := Aside0.mk (Kd.Q_drew HO145.out)
                                 have n1_ := Aside0.mk (q2d HO_8.out)
                                 have n2_ := Aside0.mk (q2d HO_9.out)
                                 have n3_ := Aside0.mk (q2d HO_126002.out)
                                 have n4_ := Aside0.mk (q2d HO_126003.out)
                                 have n5_ := Aside0.mk (q2D BK114.out)
                                 have n6_ := Aside0.mk (q2D BK125.out)
                                 have n7_ := Aside0.mk (q2e HB.out)
                                 clear HO145
                                 clear HO_8
                                 clear HO_9
                                 clear HO_126002
                                 clear HO_126003
                                 clear BK114
                                 clear BK125
                                 clear HB
                                 have HO145 := n0_
                                 have HO_8 := n1_
                                 have HO_9 := n2_
                                 have HO_126002 := n3_
                                 have HO_126003 := n4_
                                 have BK114 := n5_
                                 have BK125 := n6_
                                 have HB := n7_
                                 clear n0_ n1_ n2_ n3_ n4_ n5_ n6_ n7_
                                 obtain ⟨Ao98, co98, eo98⟩ := Kd.R_slice HO_8.out
                                 (first | subst eo98 | (injection eo98 with f1_ f2_ f3_; have f4_ := f1_.symm; have f5_ := f3_.symm; clear f1_ f2_ f3_; subst f4_; subst f5_))
                                 have p146 : 0 ≤ ((rd l1 (rd x7_4 0)) : Int) := of_decide_eq_true (by first | (with_reducible assumption) | assumption)
                                 have q146 : (rd l1 (rd x7_4 0)) < (x8_5.length : Int) := of_decide_eq_true (by first | (with_reducible assumption) | assumption)
                                 obtain ⟨ad146, e146, hx146_0⟩ := Kd.at_int (Kd.R_reads' HO_8.out).2.2 (rd l1 (rd x7_4 0)) p146 q146
                                 cases e146
                                 replace p146 := eq_true p146
                                 replace q146 := eq_true q146
                                 have p147 : 0 ≤ ((rd l1 (rd x7_4 0)) : Int) := of_decide_eq_true (by first | (with_reducible assumption) | assumption)
                                 have q147 : (rd l1 (rd x7_4 0)) < (l0.length : Int) := of_decide_eq_true (by first | (with_reducible assumption) | assumption)
                                 obtain ⟨ad147, e147, hx147_0, hx147_1⟩ := at_T32 HR0.out (rd l1 (rd x7_4 0)) p147 q147
                                 have hw147_1 := hx147_1
                                 have hw147_0 := hx147_0
                                 cases e147
                                 replace hx147_0 := (HB.out.cell (World.block_lt_of_cell? w _ hx147_0)).trans hx147_0
                                 replace hx147_1 := (HB.out.cell (World.block_lt_of_cell? w _ hx147_1)).trans hx147_1
                                 replace p147 := eq_true p147
                                 replace q147 := eq_true q147
                                 refine start_ (n := 11) (S := fun w' => w'.cell? (ad146.add ((rd l1 (rd x7_4 0))).toNat) = some (.int .i64 (rd x8_5 (rd l1 (rd x7_4 0)))) ∧ w'.cell? (ad147.add (((rd l1 (rd x7_4 0))).toNat * 2)) = some (.int .i64 ((rd_T32 l0 (rd l1 (rd x7_4 0))).f0)) ∧ w'.cell? ⟨(ad147.add (((rd l1 (rd x7_4 0))).toNat * 2)).block, (ad147.add (((rd l1 (rd x7_4 0))).toNat * 2)).off + 1, none⟩ = some (.int .i64 ((rd_T32 l0 (rd l1 (rd x7_4 0))).f1))) (ds := []) b2A4 (by kernel_rfl) rfl rfl ⟨hx146_0, ((HB.out.cell (World.block_lt_of_cell? w _ hw147_0)).trans hw147_0), ((HB.out.cell (World.block_lt_of_cell? w _ hw147_1)).trans hw147_1)⟩ (fun hHeld => ?_); refine with_tabW impl_SortRun.tab30 impl_SortRun.bits30 (fun HT_ HW_ => ?_)
                                 generalize wr.drew = w97 at HO145 HO_8 HO_9 HO_126002 HO_126003 BK114 BK125 HB hx146_0 hx147_0 hx147_1 hHeld ⊢
                                 refine pure_ (i := 0) (N := some 117) (v := ?_) (a' := ?_) b2A5 rfl rfl (any_of HT_.out (by kernel_rfl)) (fun _ _ _ h => h) (Or.inl ⟨by rfl, ?_⟩) ?_ ?_
                                 rotate_left
                                 ·intro w'
                                  go_simp
                                  with_reducible rfl
                                 rotate_left
                                 ·simp only [Act.put, List.setIfInBounds_toArray, List.set_cons_zero, List.set_cons_succ, i64_w, i32_w]
                                  rfl
                                 refine pure_ (i := 1) (N := some 118) (v := ?_) (a' := ?_) b2A6 rfl rfl (any_of HT_.out (by kernel_rfl)) (fun _ _ _ h => h) (Or.inl ⟨by rfl, ?_⟩) ?_ ?_
                                 rotate_left
                                 ·intro w'
                                  go_simp
                                  with_reducible rfl
                                 rotate_left
                                 ·simp only [Act.put, List.setIfInBounds_toArray, List.set_cons_zero, List.set_cons_succ, i64_w, i32_w]
                                  rfl
                                 refine pure_ (i := 2) (N := some 119) (v := ?_) (a' := ?_) b2A7 rfl rfl (any_of HT_.out (by kernel_rfl)) (fun _ _ _ h => h) (Or.inl ⟨by rfl, ?_⟩) ?_ ?_
                                 rotate_left
                                 ·intro w'
                                  go_simp
                                  with_reducible rfl
                                 rotate_left
                                 ·simp only [Act.put, List.setIfInBounds_toArray, List.set_cons_zero, List.set_cons_succ, i64_w, i32_w]
                                  rfl
                                 refine pure_ (i := 4) (N := some 121) (v := ?_) (a' := ?_) b2A8 rfl rfl (any_of HT_.out (by kernel_rfl)) (fun _ _ _ h => h) (Or.inl ⟨by rfl, ?_⟩) ?_ ?_
                                 rotate_left
                                 ·intro w'
                                  go_simp
                                  with_reducible rfl
                                 rotate_left
                                 ·simp only [Act.put, List.setIfInBounds_toArray, List.set_cons_zero, List.set_cons_succ, i64_w, i32_w]
                                  rfl
                                 refine pure_ (i := 5) (N := some 122) (v := ?_) (a' := ?_) b2A9 rfl rfl (any_of HT_.out (by kernel_rfl)) (fun _ _ _ h => h) (Or.inl ⟨by rfl, ?_⟩) ?_ ?_
                                 rotate_left
                                 ·intro w'
                                  go_simp
                                  with_reducible rfl
                                 rotate_left
                                 ·simp only [Act.put, List.setIfInBounds_toArray, List.set_cons_zero, List.set_cons_succ, i64_w, i32_w]
                                  rfl
                                 refine pure_ (i := 6) (N := some 123) (v := ?_) (a' := ?_) b2A10 rfl rfl (any_of HT_.out (by kernel_rfl)) (fun _ _ _ h => h) (Or.inl ⟨by rfl, ?_⟩) ?_ ?_
                                 rotate_left
                                 ·intro w'
                                  go_simp
                                  with_reducible rfl
                                 rotate_left
                                 ·simp only [Act.put, List.setIfInBounds_toArray, List.set_cons_zero, List.set_cons_succ, i64_w, i32_w]
                                  rfl
                                 refine pure_ (i := 7) (N := some 124) (v := ?_) (a' := ?_) b2A11 rfl rfl (any_of HT_.out (by kernel_rfl)) (fun _ _ _ h => h) (Or.inl ⟨by rfl, ?_⟩) ?_ ?_
                                 rotate_left
                                 ·intro w'
                                  go_simp
                                  with_reducible rfl
                                 rotate_left
                                 ·simp only [Act.put, List.setIfInBounds_toArray, List.set_cons_zero, List.set_cons_succ, i64_w, i32_w]
                                  rfl
                                 refine take_ (i := 3) (N := some 120) (v := ?_) (a' := ?_) b2A12 rfl rfl (take_ofW HT_.out HW_.out (by kernel_rfl)) (fun _ _ _ h => h) (Or.inl ⟨by rfl, ?_⟩) hHeld ?_ ?_
                                 rotate_left
                                 ·rintro w' ⟨s0, s1, s2⟩
                                  go_simp
                                  with_reducible rfl
                                 rotate_left
                                 ·simp only [Act.put, List.setIfInBounds_toArray, List.set_cons_zero, List.set_cons_succ, i64_w, i32_w]
                                  rfl
                                 refine take_ (i := 8) (N := some 125) (v := ?_) (a' := ?_) b2A13 rfl rfl (take_ofW HT_.out HW_.out (by kernel_rfl)) (fun _ _ _ h => h) (Or.inl ⟨by rfl, ?_⟩) hHeld ?_ ?_
                                 rotate_left
                                 ·rintro w' ⟨s0, s1, s2⟩
                                  go_simp
                                  with_reducible rfl
                                 rotate_left
                                 ·simp only [Act.put, List.setIfInBounds_toArray, List.set_cons_zero, List.set_cons_succ, i64_w, i32_w]
                                  rfl
                                 refine pure_ (i := 9) (N := some 126) (v := ?_) (a' := ?_) b2A14 rfl rfl (any_of HT_.out (by kernel_rfl)) (fun _ _ _ h => h) (Or.inl ⟨by rfl, ?_⟩) ?_ ?_
                                 rotate_left
                                 ·intro w'
                                  go_simp
                                  with_reducible rfl
                                 rotate_left
                                 ·simp only [Act.put, List.setIfInBounds_toArray, List.set_cons_zero, List.set_cons_succ, i64_w, i32_w]
                                  rfl
                                 refine pure_ (i := 10) (N := some 116) (v := ?_) (a' := ?_) b2A15 rfl rfl (any_of HT_.out (by kernel_rfl)) (fun _ _ _ h => h) (Or.inl ⟨by rfl, ?_⟩) ?_ ?_
                                 rotate_left
                                 ·intro w'
                                  go_simp
                                  with_reducible rfl
                                 rotate_left
                                 ·simp only [Act.put, List.setIfInBounds_toArray, List.set_cons_zero, List.set_cons_succ, i64_w, i32_w]
                                  rfl
                                 refine done_ (done_of HT_.out (by kernel_rfl)) ?_
                                 obtain ⟨Ao99, co99, eo99⟩ := Kd.R_slice HO_9.out
                                 subst eo99
                                 have p151 : 0 ≤ ((rd x7_4 0) : Int) := of_decide_eq_true (by first | (with_reducible assumption) | assumption)
                                 have q151 : (rd x7_4 0) < (x9_4.length : Int) := of_decide_eq_true (by first | (with_reducible assumption) | assumption)
                                 obtain ⟨ad151, e151, hx151_0⟩ := Kd.at_int (Kd.R_reads' HO_9.out).2.2 (rd x7_4 0) p151 q151
                                 cases e151
                                 replace p151 := eq_true p151
                                 replace q151 := eq_true q151
                                 have hnb100 := NB125_114.out
                                 have hnc100 := NB114_125.out
                                 have hcz101_0 : w97.cell? ⟨gb125, 0, none⟩ = some (.int .i64 x126000_4) := (blk_cell BK125.out 0).trans rfl
                                 have hcz101_1 : w97.cell? ⟨gb125, 1, none⟩ = some (.int .i64 x126001_4) := (blk_cell BK125.out 1).trans rfl
                                 have hcz101_2 : w97.cell? ⟨gb125, 2, none⟩ = some (u126002) := (blk_cell BK125.out 2).trans rfl
                                 have hcz101_3 : w97.cell? ⟨gb125, 3, none⟩ = some (u126003) := (blk_cell BK125.out 3).trans rfl
                                 have hfz101_0 := blk_frozen BK125.out 0
                                 have hfz101_1 := blk_frozen BK125.out 1
                                 have hfz101_2 := blk_frozen BK125.out 2
                                 have hfz101_3 := blk_frozen BK125.out 3
                                 try go_wp2_with (first | ((with_reducible refine gate_builtin (b := .append) (xs := #[.tmp 146, .tmp 148]) rfl ?_); (try (refine gate_guard (by rfl) ?_; dsimp only)); at_builtin; refine Kd.R_append (Kd.int .i64) (w0 := w) w.heap.size rfl (.tmp 146) (.tmp 148) 24 3 (.int .i64 0) 8 rfl Try.underlying24 info3 rfl (by decide) (by omega) u126003 x126003_4 (rd x7_4 0) [.int .i64 (rd x7_4 0)] (fun k_ => some k_ ≠ (.slice A96 y143.length c96 : Value).ownBlock ∧ some k_ ≠ (.slice (some ad146) x8_5.length co98 : Value).ownBlock ∧ some k_ ≠ (.slice (some ad151) x9_4.length co99 : Value).ownBlock ∧ some k_ ≠ (u126002 : Value).ownBlock) (fun _ => False) rfl rfl ?aP (fun _ hk => hk.elim) ?aF ?aO ?aB ?aS ?aL ?_; (case aP => exact rfl); (case aB => exact (by repeat (first | (with_reducible first | exact HB.out | apply q2l | apply q2w | apply q2e | refine below_set ?_ GE114.out | refine below_set ?_ GE125.out) | exact HB.out))); (case aF => exact (fun k_ hk => ⟨Kd.fresh' (Kd.Q_lt (by (with_reducible repeat (first | apply Kd.Q_alloc | apply Kd.Q_drewN | apply Kd.Q_drew)); exact HO145.out)) k_ hk, Kd.fresh' (Kd.R_lt (by (with_reducible repeat (first | apply q2a | apply q2n | apply q2d)); exact HO_8.out)) k_ hk, Kd.fresh' (Kd.R_lt (by (with_reducible repeat (first | apply q2a | apply q2n | apply q2d)); exact HO_9.out)) k_ hk, Kd.fresh' (Kd.R_lt (by (with_reducible repeat (first | apply q2a | apply q2n | apply q2d)); exact HO_126002.out)) k_ hk⟩)); (case aO => exact (by (with_reducible repeat (first | apply q2a | apply q2n | apply q2d)); exact HO_126003.out)); (case aS => exact (below_size (by repeat (first | (with_reducible first | exact HB.out | apply q2l | apply q2w | apply q2e | refine below_set ?_ GE114.out | refine below_set ?_ GE125.out) | exact HB.out)))); (case aL => have := LMc95.out; omega); intro v153 w102 ho hb hg hat; rw [← Ny152.out] at ho; have n0_ := Aside0.mk (Kd.Q_after (ok := (fun k_ => some k_ ≠ (.slice (some ad146) x8_5.length co98 : Value).ownBlock ∧ some k_ ≠ (.slice (some ad151) x9_4.length co99 : Value).ownBlock ∧ some k_ ≠ (u126002 : Value).ownBlock)) (by (with_reducible repeat (first | apply Kd.Q_alloc | apply Kd.Q_drewN | apply Kd.Q_drew)); exact Kd.Q_mono HO145.out (fun _ hk => ⟨⟨hk.1, ⟨hk.2.1, hk.2.2.1⟩⟩, hk.2.2.2⟩)) hg hat); have n1_ := Aside0.mk (Kd.R_after (ok := (fun k_ => some k_ ≠ (.slice A96 y143.length c96 : Value).ownBlock ∧ some k_ ≠ (.slice (some ad151) x9_4.length co99 : Value).ownBlock ∧ some k_ ≠ (u126002 : Value).ownBlock)) (by (with_reducible repeat (first | apply q2a | apply q2n | apply q2d)); exact Kd.R_mono HO_8.out (fun _ hk => ⟨⟨hk.1, ⟨hk.2.1, hk.2.2.1⟩⟩, hk.2.2.2⟩)) hg hat); have n2_ := Aside0.mk (Kd.R_after (ok := (fun k_ => some k_ ≠ (.slice A96 y143.length c96 : Value).ownBlock ∧ some k_ ≠ (.slice (some ad146) x8_5.length co98 : Value).ownBlock ∧ some k_ ≠ (u126002 : Value).ownBlock)) (by (with_reducible repeat (first | apply q2a | apply q2n | apply q2d)); exact Kd.R_mono HO_9.out (fun _ hk => ⟨⟨hk.1, ⟨hk.2.1, hk.2.2.1⟩⟩, hk.2.2.2⟩)) hg hat); have n3_ := Aside0.mk (Kd.R_after (ok := (fun k_ => some k_ ≠ (.slice A96 y143.length c96 : Value).ownBlock ∧ some k_ ≠ (.slice (some ad146) x8_5.length co98 : Value).ownBlock ∧ some k_ ≠ (.slice (some ad151) x9_4.length co99 : Value).ownBlock)) (by (with_reducible repeat (first | apply q2a | apply q2n | apply q2d)); exact Kd.R_mono HO_126002.out (fun _ hk => ⟨⟨hk.1, ⟨hk.2.1, hk.2.2.1⟩⟩, hk.2.2.2⟩)) hg hat); have n4_ := Aside0.mk (blk_grown (g := gb114) (o := .cells #[.int .i64 0, .int .i64 0, .slice none 0 0, .slice none 0 0] 28 (0, 0)) (by (with_reducible repeat (first | refine q2N ?_ _ | refine q2D ?_ | refine q2A ?_ _)); exact BK114.out) hg (Kd.R_ne HO_126003.out BK114.out (by decide))); have n5_ := Aside0.mk (blk_grown (g := gb125) (o := .cells #[.int .i64 x126000_4, .int .i64 x126001_4, u126002, u126003] 28 (0, 0)) (by (with_reducible repeat (first | refine q2N ?_ _ | refine q2D ?_ | refine q2A ?_ _)); exact BK125.out) hg (Kd.R_ne HO_126003.out BK125.out (by decide))); have n6_ := Aside0.mk (hb); have n7_ := Aside0.mk (ho); clear HO145; clear HO_8; clear HO_9; clear HO_126002; clear BK114; clear BK125; clear HB; clear HO_126003; have HO145 := n0_; have HO_8 := n1_; have HO_9 := n2_; have HO_126002 := n3_; have BK114 := n4_; have BK125 := n5_; have HB := n6_; have HO154 := n7_; clear n0_ n1_ n2_ n3_ n4_ n5_ n6_ n7_; clear ho hb hg hat; obtain ⟨Ao103, co103, eo103⟩ := Kd.R_slice HO154.out; subst eo103; have hcz104_0 : w102.cell? ⟨gb125, 0, none⟩ = some (.int .i64 x126000_4) := (blk_cell BK125.out 0).trans rfl; have hcz104_1 : w102.cell? ⟨gb125, 1, none⟩ = some (.int .i64 x126001_4) := (blk_cell BK125.out 1).trans rfl; have hcz104_2 : w102.cell? ⟨gb125, 2, none⟩ = some (u126002) := (blk_cell BK125.out 2).trans rfl; have hcz104_3 : w102.cell? ⟨gb125, 3, none⟩ = some (u126003) := (blk_cell BK125.out 3).trans rfl; have hfz104_0 := blk_frozen BK125.out 0; have hfz104_1 := blk_frozen BK125.out 1; have hfz104_2 := blk_frozen BK125.out 2; have hfz104_3 := blk_frozen BK125.out 3))
                                 go_roundg k5
                                 case measure => have := HJ2.out; have := HJ9.out; have := HK3.out; have := HK4.out; have := HK5.out; omega
                                 case rel => exact ⟨(y143), (x8_5), (x9_4), (wrap64 (x126000_4 + 1)), (x126001_4), (x126002_4), (y152), (u126002), (.slice Ao103 y152.length co103), H', ⟨by have := HJ2.out; have := HJ9.out; have := HK3.out; have := HK4.out; have := HK5.out; omega⟩, ⟨by (with_reducible repeat (first | apply Kd.Q_alloc | apply Kd.Q_drewN | apply Kd.Q_drew)); exact Kd.Q_mono (Kd.Q_far (p := ⟨gb125, 0, none⟩) (Kd.Q_far (p := ⟨gb125, 3, none⟩) (Kd.Q_types HO145.out BK125.out (by decide)) (fun _ hk => hk.2) (.slice Ao103 y152.length co103)) (fun _ hk => hk.2) (.int .i64 (wrap64 (x126000_4 + 1)))) (fun _ hk => ⟨hk.1.1.1, ⟨hk.1.1.2.1, ⟨hk.1.1.2.2, hk.1.2⟩⟩⟩)⟩, ⟨by (with_reducible repeat (first | apply q2a | apply q2n | apply q2d)); exact Kd.R_mono (Kd.R_far (p := ⟨gb125, 0, none⟩) (Kd.R_far (p := ⟨gb125, 3, none⟩) (Kd.R_types HO_8.out BK125.out (by decide)) (fun _ hk => hk.2) (.slice Ao103 y152.length co103)) (fun _ hk => hk.2) (.int .i64 (wrap64 (x126000_4 + 1)))) (fun _ hk => ⟨hk.1.1.1, ⟨hk.1.1.2.1, ⟨hk.1.1.2.2, hk.1.2⟩⟩⟩)⟩, ⟨by (with_reducible repeat (first | apply q2a | apply q2n | apply q2d)); exact Kd.R_mono (Kd.R_far (p := ⟨gb125, 0, none⟩) (Kd.R_far (p := ⟨gb125, 3, none⟩) (Kd.R_types HO_9.out BK125.out (by decide)) (fun _ hk => hk.2) (.slice Ao103 y152.length co103)) (fun _ hk => hk.2) (.int .i64 (wrap64 (x126000_4 + 1)))) (fun _ hk => ⟨hk.1.1.1, ⟨hk.1.1.2.1, ⟨hk.1.1.2.2, hk.1.2⟩⟩⟩)⟩, ⟨by (with_reducible repeat (first | apply q2a | apply q2n | apply q2d)); exact Kd.R_mono (Kd.R_far (p := ⟨gb125, 0, none⟩) (Kd.R_far (p := ⟨gb125, 3, none⟩) (Kd.R_types HO_126002.out BK125.out (by decide)) (fun _ hk => hk.2) (.slice Ao103 y152.length co103)) (fun _ hk => hk.2) (.int .i64 (wrap64 (x126000_4 + 1)))) (fun _ hk => ⟨hk.1.1.1, ⟨hk.1.1.2.1, ⟨hk.1.1.2.2, hk.1.2⟩⟩⟩)⟩, ⟨by (with_reducible repeat (first | apply q2a | apply q2n | apply q2d)); exact Kd.R_mono (Kd.R_far (p := ⟨gb125, 0, none⟩) (Kd.R_far (p := ⟨gb125, 3, none⟩) (Kd.R_types HO154.out BK125.out (by decide)) (fun _ hk => hk.2) (.slice Ao103 y152.length co103)) (fun _ hk => hk.2) (.int .i64 (wrap64 (x126000_4 + 1)))) (fun _ hk => ⟨hk.1.1, ⟨hk.1.2.1, ⟨hk.1.2.2.1, hk.1.2.2.2⟩⟩⟩)⟩, ⟨by (with_reducible repeat (first | refine q2N ?_ _ | refine q2D ?_ | refine q2A ?_ _)); refine blk_far ?_ NB114_125.out _; (with_reducible repeat (first | refine q2N ?_ _ | refine q2D ?_ | refine q2A ?_ _)); refine blk_far ?_ NB114_125.out _; (with_reducible repeat (first | refine q2N ?_ _ | refine q2D ?_ | refine q2A ?_ _)); exact BK114.out⟩, ⟨by (with_reducible repeat (first | refine q2N ?_ _ | refine q2D ?_ | refine q2A ?_ _)); refine blk_put (cs := #[.int .i64 x126000_4, .int .i64 x126001_4, u126002, .slice Ao103 y152.length co103]) ?_ 0 _ rfl; (with_reducible repeat (first | refine q2N ?_ _ | refine q2D ?_ | refine q2A ?_ _)); refine blk_put (cs := #[.int .i64 x126000_4, .int .i64 x126001_4, u126002, u126003]) ?_ 3 _ rfl; (with_reducible repeat (first | refine q2N ?_ _ | refine q2D ?_ | refine q2A ?_ _)); exact BK125.out⟩, ⟨by repeat (first | (with_reducible first | exact HB.out | apply q2l | apply q2w | apply q2e | refine below_set ?_ GE114.out | refine below_set ?_ GE125.out) | exact HB.out)⟩⟩
                                ·rw [if_neg c95] at H
                                 exact absurd H (by simp)
                               ·rw [if_neg c94] at H
                                have c94b0 : ((rd x9_4 (rd x7_4 0)) == 3) = false := beq_eq_false_iff_ne.mpr c94
                                have c94b1 : ((rd x9_4 (rd x7_4 0)) != 3) = true := bne_iff_ne.mpr c94
                                obtain ⟨y156, hy156⟩ : ∃ y_ : List Int, y_ = (x9_4.set ((rd x7_4 0) : Int).toNat (wrap64 ((rd x9_4 (rd x7_4 0)) + 1))) := ⟨_, rfl⟩
                                replace H : (if y143.length < 17592186044416 then (impl_SortRun.l1 k5 l0 l1 (y143 ++ [rd x7_4 0]) x8_5 y156 (wrap64 (x126000_4 + 1)) (wrap64 (x126001_4 + 1)) x126002_4 x126003_4) else (none)) = some (r1, r2, r3, r4, r5) := by first | (rw [hy156]; with_reducible exact H) | (have H2_ := (Option.bind_some _ _).symm.trans H; rw [hy156]; with_reducible exact H2_) | (have H2_ := (Option.bind_some _ _).symm.trans H; with_reducible exact H2_) | with_reducible exact H | (rw [hy156]; exact H) | exact H
                                have Ny156 := Aside0.mk hy156
                                clear hy156
                                by_cases c106 : y143.length < 17592186044416
                                ·rw [if_pos c106] at H
                                 have LMc106 := Aside0.mk c106
                                 clear c106
                                 obtain ⟨y157, hy157⟩ : ∃ y_ : List Int, y_ = (y143 ++ [rd x7_4 0]) := ⟨_, rfl⟩
                                 replace H : (impl_SortRun.l1 k5 l0 l1 y157 x8_5 y156 (wrap64 (x126000_4 + 1)) (wrap64 (x126001_4 + 1)) x126002_4 x126003_4) = some (r1, r2, r3, r4, r5) := by first | (rw [hy157]; with_reducible exact H) | (have H2_ := (Option.bind_some _ _).symm.trans H; rw [hy157]; with_reducible exact H2_) | (have H2_ := (Option.bind_some _ _).symm.trans H; with_reducible exact H2_) | with_reducible exact H | (rw [hy157]; exact H) | exact H
                                 have Ny157 := Aside0.mk hy157
                                 clear hy157
                                 have H' := Aside0.mk H
                                 clear H
                                 have p141 : 0 ≤ (0 : Int) := (by omega)
                                 have q141 : 0 < (x7_4.length : Int) := of_decide_eq_true (by first | (with_reducible assumption) | assumption)
                                 obtain ⟨ad141, e141, hx141_0⟩ := Kd.at_int (Kd.Q_reads' HO_7.out).2.2 0 p141 q141
                                 cases e141
                                 have qi141 : (0 < x7_4.length) = True := eq_true (by omega)
                                 (try rw [show ((0 : Int)).toNat = 0 from rfl] at hx141_0)
                                 (try rw [Addr.add_zero'] at hx141_0)
                                 replace p141 := eq_true p141
                                 replace q141 := eq_true q141
                                 have p142 : 0 ≤ ((rd x7_4 0) : Int) := of_decide_eq_true (by first | (with_reducible assumption) | assumption)
                                 have q142 : (rd x7_4 0) < (l1.length : Int) := of_decide_eq_true (by first | (with_reducible assumption) | assumption)
                                 obtain ⟨ad142, e142, hx142_0⟩ := Kd.at_int HR1.out (rd x7_4 0) p142 q142
                                 cases e142
                                 replace hx142_0 := (HB.out.cell (World.block_lt_of_cell? w _ hx142_0)).trans hx142_0
                                 replace p142 := eq_true p142
                                 replace q142 := eq_true q142
                                 have q107 : (1 : Int) ≤ ((x7_4.length : Int) : Int) := of_decide_eq_true (by first | (with_reducible assumption) | assumption)
                                 obtain ⟨i0107, hi0107, _, hsz107, _⟩ := info_parts info3
                                 have hcut107 := cut_from (P := Try.prog) 24 3 .i64 Try.underlying24 hi0107 1 hsz107 (some ad141) x7_4.length co48 1 (by omega) q107
                                 have hr107 := Kd.Q_drop (k := (1 : Int).toNat) HO_7.out (by omega)
                                 obtain ⟨A107, hA107⟩ : ∃ A1, A1 = (if co48 = (1 : Int).toNat then (some ad141) else ((some ad141) : Option Addr).map (·.add ((1 : Int).toNat * 1))) := ⟨_, rfl⟩
                                 obtain ⟨c107, hc107⟩ : ∃ c1, c1 = co48 - (1 : Int).toNat := ⟨_, rfl⟩
                                 have hy107 : y143.length = x7_4.length - (1 : Int).toNat := (by rw [Ny143.out, List.length_drop])
                                 rw [← Ny143.out] at hr107
                                 rw [← hy107, ← hA107, ← hc107] at hcut107
                                 replace hr107 : Kd.Q (Kd.int .i64) 3 wr w.heap.size (fun k_ => some k_ ≠ (v130 : Value).ownBlock ∧ some k_ ≠ (v133 : Value).ownBlock ∧ some k_ ≠ (u126002 : Value).ownBlock ∧ some k_ ≠ (u126003 : Value).ownBlock) (.slice A107 y143.length c107) y143 := (by rw [hA107, hc107, hy107]; exact hr107)
                                 have HE107 : Aside0 ((Value.slice A107 y143.length c107).ownBlock = (.slice (some ad141) x7_4.length co48 : Value).ownBlock) := ⟨by rw [hA107]; split <;> (cases ((some ad141) : Option Addr) <;> rfl)⟩
                                 clear hy107 hi0107 hsz107 HO_7 hA107 hc107
                                 have HO145 := Aside0.mk hr107
                                 clear hr107
                                 replace q107 := eq_true q107
                                 have n_ := Aside0.mk (Kd.R_mono (ok' := fun k_ => (some k_ ≠ (.slice A107 y143.length c107 : Value).ownBlock ∧ (some k_ ≠ (v133 : Value).ownBlock ∧ (some k_ ≠ (u126002 : Value).ownBlock ∧ some k_ ≠ (u126003 : Value).ownBlock)))) HO_8.out (fun k_ hk => ⟨(by rw [HE107.out]; exact hk.1), ⟨hk.2.1, ⟨hk.2.2.1, hk.2.2.2⟩⟩⟩))
                                 clear HO_8
                                 have HO_8 := n_
                                 clear n_
                                 have n_ := Aside0.mk (Kd.R_mono (ok' := fun k_ => (some k_ ≠ (.slice A107 y143.length c107 : Value).ownBlock ∧ (some k_ ≠ (v130 : Value).ownBlock ∧ (some k_ ≠ (u126002 : Value).ownBlock ∧ some k_ ≠ (u126003 : Value).ownBlock)))) HO_9.out (fun k_ hk => ⟨(by rw [HE107.out]; exact hk.1), ⟨hk.2.1, ⟨hk.2.2.1, hk.2.2.2⟩⟩⟩))
                                 clear HO_9
                                 have HO_9 := n_
                                 clear n_
                                 have n_ := Aside0.mk (Kd.R_mono (ok' := fun k_ => (some k_ ≠ (.slice A107 y143.length c107 : Value).ownBlock ∧ (some k_ ≠ (v130 : Value).ownBlock ∧ (some k_ ≠ (v133 : Value).ownBlock ∧ some k_ ≠ (u126003 : Value).ownBlock)))) HO_126002.out (fun k_ hk => ⟨(by rw [HE107.out]; exact hk.1), ⟨hk.2.1, ⟨hk.2.2.1, hk.2.2.2⟩⟩⟩))
                                 clear HO_126002
                                 have HO_126002 := n_
                                 clear n_
                                 have n_ := Aside0.mk (Kd.R_mono (ok' := fun k_ => (some k_ ≠ (.slice A107 y143.length c107 : Value).ownBlock ∧ (some k_ ≠ (v130 : Value).ownBlock ∧ (some k_ ≠ (v133 : Value).ownBlock ∧ some k_ ≠ (u126002 : Value).ownBlock)))) HO_126003.out (fun k_ hk => ⟨(by rw [HE107.out]; exact hk.1), ⟨hk.2.1, ⟨hk.2.2.1, hk.2.2.2⟩⟩⟩))
                                 clear HO_126003
                                 have HO_126003 := n_
                                 clear n_
                                 try go_wp2
                                 have n0_ := Aside0.mk (Kd.Q_drew HO145.out)
                                 have n1_ := Aside0.mk (q2d HO_8.out)
                                 have n2_ := Aside0.mk (q2d HO_9.out)
                                 have n3_ := Aside0.mk (q2d HO_126002.out)
                                 have n4_ := Aside0.mk (q2d HO_126003.out)
                                 have n5_ := Aside0.mk (q2D BK114.out)
                                 have n6_ := Aside0.mk (q2D BK125.out)
                                 have n7_ := Aside0.mk (q2e HB.out)
                                 clear HO145
                                 clear HO_8
                                 clear HO_9
                                 clear HO_126002
                                 clear HO_126003
                                 clear BK114
                                 clear BK125
                                 clear HB
                                 have HO145 := n0_
                                 have HO_8 := n1_
                                 have HO_9 := n2_
                                 have HO_126002 := n3_
                                 have HO_126003 := n4_
                                 have BK114 := n5_
                                 have BK125 := n6_
                                 have HB := n7_
                                 clear n0_ n1_ n2_ n3_ n4_ n5_ n6_ n7_
                                 obtain ⟨Ao109, co109, eo109⟩ := Kd.R_slice HO_8.out
                                 (first | subst eo109 | (injection eo109 with f1_ f2_ f3_; have f4_ := f1_.symm; have f5_ := f3_.symm; clear f1_ f2_ f3_; subst f4_; subst f5_))
                                 have p146 : 0 ≤ ((rd l1 (rd x7_4 0)) : Int) := of_decide_eq_true (by first | (with_reducible assumption) | assumption)
                                 have q146 : (rd l1 (rd x7_4 0)) < (x8_5.length : Int) := of_decide_eq_true (by first | (with_reducible assumption) | assumption)
                                 obtain ⟨ad146, e146, hx146_0⟩ := Kd.at_int (Kd.R_reads' HO_8.out).2.2 (rd l1 (rd x7_4 0)) p146 q146
                                 cases e146
                                 replace p146 := eq_true p146
                                 replace q146 := eq_true q146
                                 have p147 : 0 ≤ ((rd l1 (rd x7_4 0)) : Int) := of_decide_eq_true (by first | (with_reducible assumption) | assumption)
                                 have q147 : (rd l1 (rd x7_4 0)) < (l0.length : Int) := of_decide_eq_true (by first | (with_reducible assumption) | assumption)
                                 obtain ⟨ad147, e147, hx147_0, hx147_1⟩ := at_T32 HR0.out (rd l1 (rd x7_4 0)) p147 q147
                                 have hw147_1 := hx147_1
                                 have hw147_0 := hx147_0
                                 cases e147
                                 replace hx147_0 := (HB.out.cell (World.block_lt_of_cell? w _ hx147_0)).trans hx147_0
                                 replace hx147_1 := (HB.out.cell (World.block_lt_of_cell? w _ hx147_1)).trans hx147_1
                                 replace p147 := eq_true p147
                                 replace q147 := eq_true q147
                                 refine start_ (n := 11) (S := fun w' => w'.cell? (ad146.add ((rd l1 (rd x7_4 0))).toNat) = some (.int .i64 (rd x8_5 (rd l1 (rd x7_4 0)))) ∧ w'.cell? (ad147.add (((rd l1 (rd x7_4 0))).toNat * 2)) = some (.int .i64 ((rd_T32 l0 (rd l1 (rd x7_4 0))).f0)) ∧ w'.cell? ⟨(ad147.add (((rd l1 (rd x7_4 0))).toNat * 2)).block, (ad147.add (((rd l1 (rd x7_4 0))).toNat * 2)).off + 1, none⟩ = some (.int .i64 ((rd_T32 l0 (rd l1 (rd x7_4 0))).f1))) (ds := []) b2A4 (by kernel_rfl) rfl rfl ⟨hx146_0, ((HB.out.cell (World.block_lt_of_cell? w _ hw147_0)).trans hw147_0), ((HB.out.cell (World.block_lt_of_cell? w _ hw147_1)).trans hw147_1)⟩ (fun hHeld => ?_); refine with_tabW impl_SortRun.tab30 impl_SortRun.bits30 (fun HT_ HW_ => ?_)
                                 generalize wr.drew = w108 at HO145 HO_8 HO_9 HO_126002 HO_126003 BK114 BK125 HB hx146_0 hx147_0 hx147_1 hHeld ⊢
                                 refine pure_ (i := 0) (N := some 117) (v := ?_) (a' := ?_) b2A5 rfl rfl (any_of HT_.out (by kernel_rfl)) (fun _ _ _ h => h) (Or.inl ⟨by rfl, ?_⟩) ?_ ?_
                                 rotate_left
                                 ·intro w'
                                  go_simp
                                  with_reducible rfl
                                 rotate_left
                                 ·simp only [Act.put, List.setIfInBounds_toArray, List.set_cons_zero, List.set_cons_succ, i64_w, i32_w]
                                  rfl
                                 refine pure_ (i := 1) (N := some 118) (v := ?_) (a' := ?_) b2A6 rfl rfl (any_of HT_.out (by kernel_rfl)) (fun _ _ _ h => h) (Or.inl ⟨by rfl, ?_⟩) ?_ ?_
                                 rotate_left
                                 ·intro w'
                                  go_simp
                                  with_reducible rfl
                                 rotate_left
                                 ·simp only [Act.put, List.setIfInBounds_toArray, List.set_cons_zero, List.set_cons_succ, i64_w, i32_w]
                                  rfl
                                 refine pure_ (i := 2) (N := some 119) (v := ?_) (a' := ?_) b2A7 rfl rfl (any_of HT_.out (by kernel_rfl)) (fun _ _ _ h => h) (Or.inl ⟨by rfl, ?_⟩) ?_ ?_
                                 rotate_left
                                 ·intro w'
                                  go_simp
                                  with_reducible rfl
                                 rotate_left
                                 ·simp only [Act.put, List.setIfInBounds_toArray, List.set_cons_zero, List.set_cons_succ, i64_w, i32_w]
                                  rfl
                                 refine pure_ (i := 4) (N := some 121) (v := ?_) (a' := ?_) b2A8 rfl rfl (any_of HT_.out (by kernel_rfl)) (fun _ _ _ h => h) (Or.inl ⟨by rfl, ?_⟩) ?_ ?_
                                 rotate_left
                                 ·intro w'
                                  go_simp
                                  with_reducible rfl
                                 rotate_left
                                 ·simp only [Act.put, List.setIfInBounds_toArray, List.set_cons_zero, List.set_cons_succ, i64_w, i32_w]
                                  rfl
                                 refine pure_ (i := 5) (N := some 122) (v := ?_) (a' := ?_) b2A9 rfl rfl (any_of HT_.out (by kernel_rfl)) (fun _ _ _ h => h) (Or.inl ⟨by rfl, ?_⟩) ?_ ?_
                                 rotate_left
                                 ·intro w'
                                  go_simp
                                  with_reducible rfl
                                 rotate_left
                                 ·simp only [Act.put, List.setIfInBounds_toArray, List.set_cons_zero, List.set_cons_succ, i64_w, i32_w]
                                  rfl
                                 refine pure_ (i := 6) (N := some 123) (v := ?_) (a' := ?_) b2A10 rfl rfl (any_of HT_.out (by kernel_rfl)) (fun _ _ _ h => h) (Or.inl ⟨by rfl, ?_⟩) ?_ ?_
                                 rotate_left
                                 ·intro w'
                                  go_simp
                                  with_reducible rfl
                                 rotate_left
                                 ·simp only [Act.put, List.setIfInBounds_toArray, List.set_cons_zero, List.set_cons_succ, i64_w, i32_w]
                                  rfl
                                 refine pure_ (i := 7) (N := some 124) (v := ?_) (a' := ?_) b2A11 rfl rfl (any_of HT_.out (by kernel_rfl)) (fun _ _ _ h => h) (Or.inl ⟨by rfl, ?_⟩) ?_ ?_
                                 rotate_left
                                 ·intro w'
                                  go_simp
                                  with_reducible rfl
                                 rotate_left
                                 ·simp only [Act.put, List.setIfInBounds_toArray, List.set_cons_zero, List.set_cons_succ, i64_w, i32_w]
                                  rfl
                                 refine take_ (i := 3) (N := some 120) (v := ?_) (a' := ?_) b2A12 rfl rfl (take_ofW HT_.out HW_.out (by kernel_rfl)) (fun _ _ _ h => h) (Or.inl ⟨by rfl, ?_⟩) hHeld ?_ ?_
                                 rotate_left
                                 ·rintro w' ⟨s0, s1, s2⟩
                                  go_simp
                                  with_reducible rfl
                                 rotate_left
                                 ·simp only [Act.put, List.setIfInBounds_toArray, List.set_cons_zero, List.set_cons_succ, i64_w, i32_w]
                                  rfl
                                 refine take_ (i := 8) (N := some 125) (v := ?_) (a' := ?_) b2A13 rfl rfl (take_ofW HT_.out HW_.out (by kernel_rfl)) (fun _ _ _ h => h) (Or.inl ⟨by rfl, ?_⟩) hHeld ?_ ?_
                                 rotate_left
                                 ·rintro w' ⟨s0, s1, s2⟩
                                  go_simp
                                  with_reducible rfl
                                 rotate_left
                                 ·simp only [Act.put, List.setIfInBounds_toArray, List.set_cons_zero, List.set_cons_succ, i64_w, i32_w]
                                  rfl
                                 refine pure_ (i := 9) (N := some 126) (v := ?_) (a' := ?_) b2A14 rfl rfl (any_of HT_.out (by kernel_rfl)) (fun _ _ _ h => h) (Or.inl ⟨by rfl, ?_⟩) ?_ ?_
                                 rotate_left
                                 ·intro w'
                                  go_simp
                                  with_reducible rfl
                                 rotate_left
                                 ·simp only [Act.put, List.setIfInBounds_toArray, List.set_cons_zero, List.set_cons_succ, i64_w, i32_w]
                                  rfl
                                 refine pure_ (i := 10) (N := some 116) (v := ?_) (a' := ?_) b2A15 rfl rfl (any_of HT_.out (by kernel_rfl)) (fun _ _ _ h => h) (Or.inl ⟨by rfl, ?_⟩) ?_ ?_
                                 rotate_left
                                 ·intro w'
                                  go_simp
                                  with_reducible rfl
                                 rotate_left
                                 ·simp only [Act.put, List.setIfInBounds_toArray, List.set_cons_zero, List.set_cons_succ, i64_w, i32_w]
                                  rfl
                                 refine done_ (done_of HT_.out (by kernel_rfl)) ?_
                                 obtain ⟨Ao110, co110, eo110⟩ := Kd.R_slice HO_9.out
                                 subst eo110
                                 have p151 : 0 ≤ ((rd x7_4 0) : Int) := of_decide_eq_true (by first | (with_reducible assumption) | assumption)
                                 have q151 : (rd x7_4 0) < (x9_4.length : Int) := of_decide_eq_true (by first | (with_reducible assumption) | assumption)
                                 obtain ⟨ad151, e151, hx151_0⟩ := Kd.at_int (Kd.R_reads' HO_9.out).2.2 (rd x7_4 0) p151 q151
                                 cases e151
                                 replace p151 := eq_true p151
                                 replace q151 := eq_true q151
                                 have p155 : 0 ≤ ((rd x7_4 0) : Int) := of_decide_eq_true (by first | (with_reducible assumption) | assumption)
                                 have q155 : (rd x7_4 0) < (x9_4.length : Int) := of_decide_eq_true (by first | (with_reducible assumption) | assumption)
                                 obtain ⟨ad155, e155, hx155_0⟩ := Kd.at_int (Kd.R_reads' HO_9.out).2.2 (rd x7_4 0) p155 q155
                                 obtain rfl : ad151 = ad155 := (by injection e155)
                                 replace p155 := eq_true p155
                                 replace q155 := eq_true q155
                                 have p105 : 0 ≤ ((rd x7_4 0) : Int) := of_decide_eq_true (by first | (with_reducible assumption) | assumption)
                                 have q105 : ((rd x7_4 0) : Int) < ((x9_4.length : Int) : Int) := of_decide_eq_true (by first | (with_reducible assumption) | assumption)
                                 obtain ⟨go105, co105, eo105, gb105, gl105, cl105, HG105⟩ := Kd.R_form HO_9.out (by omega)
                                 (first | cases eo105 | (injection eo105 with ea_ en_ ec_; (first | subst ea_ | (injection ea_ with ea_; subst ea_)); subst ec_; clear en_))
                                 have GB105 := Aside0.mk gb105
                                 have GG105 := Aside0.mk HG105
                                 clear gb105 gl105 HG105
                                 (first | simp only [add_plain] at hx151_0 | skip)
                                 (first | simp only [add_plain] at hx155_0 | skip)
                                 obtain ⟨hx105_0, hf105_0⟩ := Kd.R_celln 0 HO_9.out ((rd x7_4 0) : Int) p105 q105
                                 replace p105 := eq_true p105
                                 replace q105 := eq_true q105
                                 obtain ⟨hy111_, hz111_⟩ := Kd.R_celln 0 HO_9.out ((rd x7_4 0) : Int) (of_decide_eq_true (by first | (with_reducible assumption) | assumption)) (of_decide_eq_true (by first | (with_reducible assumption) | assumption))
                                 have HP111 := Kd.R_putg HO_9.out ((rd x7_4 0) : Int) (wrap64 ((rd x9_4 (rd x7_4 0)) + 1))
                                 try go_wp2_with (first | ((with_reducible refine gate_store (t := 3) (p := 107) rfl ?_); refine store_event (t := 3) (p := 107) (v := ?vo_w112) (w1 := (w108.setCell ⟨go105, ((rd x7_4 0) : Int).toNat, none⟩ (.int .i64 (wrap64 ((rd x9_4 (rd x7_4 0)) + 1))))) ?hg ?ho ?hn ?hr ?_; (case ho => rfl); (case hg => rfl); (case hn => rfl); (case hr => first | (go_simp; done) | (go_simp; rfl)); intro w112 hw; have hg : w108.grownBy w112 (some go105) := (by rw [hw]; exact HP111.2); have hp_ : Kd.R (Kd.int .i64) 3 w112 w.heap.size (fun k_ => some k_ ≠ (.slice A107 y143.length c107 : Value).ownBlock ∧ some k_ ≠ (.slice (some ad146) x8_5.length co109 : Value).ownBlock ∧ some k_ ≠ (u126002 : Value).ownBlock ∧ some k_ ≠ (u126003 : Value).ownBlock) (.slice (some ⟨go105, 0, none⟩) x9_4.length co110) y156 := (by rw [hw, Ny156.out]; exact HP111.1); clear HP111; have n0_ := Aside0.mk (Kd.Q_after (v := (.slice (some ⟨go105, 0, none⟩) x9_4.length co110)) (v1 := (.slice (some ⟨go105, 0, none⟩) x9_4.length co110)) (ok := (fun k_ => some k_ ≠ (.slice (some ad146) x8_5.length co109 : Value).ownBlock ∧ some k_ ≠ (u126002 : Value).ownBlock ∧ some k_ ≠ (u126003 : Value).ownBlock)) (by (with_reducible repeat (first | apply Kd.Q_alloc | apply Kd.Q_drewN | apply Kd.Q_drew)); exact Kd.Q_mono HO145.out (fun _ hk => ⟨⟨hk.1, ⟨hk.2.2.1, hk.2.2.2⟩⟩, hk.2.1⟩)) hg (.inl rfl)); have n1_ := Aside0.mk (Kd.R_after (v := (.slice (some ⟨go105, 0, none⟩) x9_4.length co110)) (v1 := (.slice (some ⟨go105, 0, none⟩) x9_4.length co110)) (ok := (fun k_ => some k_ ≠ (.slice A107 y143.length c107 : Value).ownBlock ∧ some k_ ≠ (u126002 : Value).ownBlock ∧ some k_ ≠ (u126003 : Value).ownBlock)) (by (with_reducible repeat (first | apply q2a | apply q2n | apply q2d)); exact Kd.R_mono HO_8.out (fun _ hk => ⟨⟨hk.1, ⟨hk.2.2.1, hk.2.2.2⟩⟩, hk.2.1⟩)) hg (.inl rfl)); have n2_ := Aside0.mk (hp_); have n3_ := Aside0.mk (Kd.R_after (v := (.slice (some ⟨go105, 0, none⟩) x9_4.length co110)) (v1 := (.slice (some ⟨go105, 0, none⟩) x9_4.length co110)) (ok := (fun k_ => some k_ ≠ (.slice A107 y143.length c107 : Value).ownBlock ∧ some k_ ≠ (.slice (some ad146) x8_5.length co109 : Value).ownBlock ∧ some k_ ≠ (u126003 : Value).ownBlock)) (by (with_reducible repeat (first | apply q2a | apply q2n | apply q2d)); exact Kd.R_mono HO_126002.out (fun _ hk => ⟨⟨hk.1, ⟨hk.2.1, hk.2.2.2⟩⟩, hk.2.2.1⟩)) hg (.inl rfl)); have n4_ := Aside0.mk (Kd.R_after (v := (.slice (some ⟨go105, 0, none⟩) x9_4.length co110)) (v1 := (.slice (some ⟨go105, 0, none⟩) x9_4.length co110)) (ok := (fun k_ => some k_ ≠ (.slice A107 y143.length c107 : Value).ownBlock ∧ some k_ ≠ (.slice (some ad146) x8_5.length co109 : Value).ownBlock ∧ some k_ ≠ (u126002 : Value).ownBlock)) (by (with_reducible repeat (first | apply q2a | apply q2n | apply q2d)); exact Kd.R_mono HO_126003.out (fun _ hk => ⟨⟨hk.1, ⟨hk.2.1, hk.2.2.2⟩⟩, hk.2.2.1⟩)) hg (.inl rfl)); have n5_ := Aside0.mk (blk_grown (g := gb114) (o := .cells #[.int .i64 0, .int .i64 0, .slice none 0 0, .slice none 0 0] 28 (0, 0)) (by (with_reducible repeat (first | refine q2N ?_ _ | refine q2D ?_ | refine q2A ?_ _)); exact BK114.out) hg (Kd.R_ne HO_9.out BK114.out (by decide))); have n6_ := Aside0.mk (blk_grown (g := gb125) (o := .cells #[.int .i64 x126000_4, .int .i64 x126001_4, u126002, u126003] 28 (0, 0)) (by (with_reducible repeat (first | refine q2N ?_ _ | refine q2D ?_ | refine q2A ?_ _)); exact BK125.out) hg (Kd.R_ne HO_9.out BK125.out (by decide))); have n7_ := Aside0.mk ((by rw [hw]; exact below_set (HB.out) GB105.out : Below w.heap.size w w112)); clear HO145; clear HO_8; clear HO_9; clear HO_126002; clear HO_126003; clear BK114; clear BK125; clear HB; have HO145 := n0_; have HO_8 := n1_; have HO_9 := n2_; have HO_126002 := n3_; have HO_126003 := n4_; have BK114 := n5_; have BK125 := n6_; have HB := n7_; clear n0_ n1_ n2_ n3_ n4_ n5_ n6_ n7_; clear hg hw hp_; have hnb113 := NB125_114.out; have hnc113 := NB114_125.out; have hcz114_0 : w112.cell? ⟨gb125, 0, none⟩ = some (.int .i64 x126000_4) := (blk_cell BK125.out 0).trans rfl; have hcz114_1 : w112.cell? ⟨gb125, 1, none⟩ = some (.int .i64 x126001_4) := (blk_cell BK125.out 1).trans rfl; have hcz114_2 : w112.cell? ⟨gb125, 2, none⟩ = some (u126002) := (blk_cell BK125.out 2).trans rfl; have hcz114_3 : w112.cell? ⟨gb125, 3, none⟩ = some (u126003) := (blk_cell BK125.out 3).trans rfl; have hfz114_0 := blk_frozen BK125.out 0; have hfz114_1 := blk_frozen BK125.out 1; have hfz114_2 := blk_frozen BK125.out 2; have hfz114_3 := blk_frozen BK125.out 3) | ((with_reducible refine gate_builtin (b := .append) (xs := #[.tmp 112, .tmp 114]) rfl ?_); (try (refine gate_guard (by rfl) ?_; dsimp only)); at_builtin; refine Kd.Q_append (Kd.int .i64) (w0 := w) w.heap.size rfl (.tmp 112) (.tmp 114) 24 3 (.int .i64 0) 8 rfl Try.underlying24 info3 rfl (by decide) (by omega) (.slice A107 y143.length c107) y143 (rd x7_4 0) [.int .i64 (rd x7_4 0)] (fun k_ => some k_ ≠ (.slice (some ad146) x8_5.length co109 : Value).ownBlock ∧ some k_ ≠ (.slice (some ⟨go105, 0, none⟩) x9_4.length co110 : Value).ownBlock ∧ some k_ ≠ (u126002 : Value).ownBlock ∧ some k_ ≠ (u126003 : Value).ownBlock) (fun _ => False) rfl (by first | (go_simp; done) | (go_simp; rfl)) ?aP (fun _ hk => hk.elim) ?aF ?aO ?aB ?aS ?aL ?_; (case aP => exact rfl); (case aB => exact (by repeat (first | (with_reducible first | exact HB.out | apply q2l | apply q2w | apply q2e | refine below_set ?_ GE114.out | refine below_set ?_ GE125.out) | exact HB.out))); (case aF => exact (fun k_ hk => ⟨Kd.fresh' (Kd.R_lt (by (with_reducible repeat (first | apply q2a | apply q2n | apply q2d)); exact (Kd.R_mono (Kd.R_far (p := ⟨gb125, 1, none⟩) (Kd.R_types HO_8.out BK125.out (by decide)) (fun _ hk => hk.2) (.int .i64 (wrap64 (x126001_4 + 1)))) (fun _ h_ => h_.1)))) k_ hk, Kd.fresh' (Kd.R_lt (by (with_reducible repeat (first | apply q2a | apply q2n | apply q2d)); exact (Kd.R_mono (Kd.R_far (p := ⟨gb125, 1, none⟩) (Kd.R_types HO_9.out BK125.out (by decide)) (fun _ hk => hk.2) (.int .i64 (wrap64 (x126001_4 + 1)))) (fun _ h_ => h_.1)))) k_ hk, Kd.fresh' (Kd.R_lt (by (with_reducible repeat (first | apply q2a | apply q2n | apply q2d)); exact (Kd.R_mono (Kd.R_far (p := ⟨gb125, 1, none⟩) (Kd.R_types HO_126002.out BK125.out (by decide)) (fun _ hk => hk.2) (.int .i64 (wrap64 (x126001_4 + 1)))) (fun _ h_ => h_.1)))) k_ hk, Kd.fresh' (Kd.R_lt (by (with_reducible repeat (first | apply q2a | apply q2n | apply q2d)); exact (Kd.R_mono (Kd.R_far (p := ⟨gb125, 1, none⟩) (Kd.R_types HO_126003.out BK125.out (by decide)) (fun _ hk => hk.2) (.int .i64 (wrap64 (x126001_4 + 1)))) (fun _ h_ => h_.1)))) k_ hk⟩)); (case aO => exact (by (with_reducible repeat (first | apply Kd.Q_alloc | apply Kd.Q_drewN | apply Kd.Q_drew)); exact Kd.Q_mono (Kd.Q_far (p := ⟨gb125, 1, none⟩) (Kd.Q_types HO145.out BK125.out (by decide)) (fun _ hk => hk.2) (.int .i64 (wrap64 (x126001_4 + 1)))) (fun _ hk => ⟨hk.1.1.1, ⟨hk.1.2, ⟨hk.1.1.2.1, hk.1.1.2.2⟩⟩⟩))); (case aS => exact (below_size (by repeat (first | (with_reducible first | exact HB.out | apply q2l | apply q2w | apply q2e | refine below_set ?_ GE114.out | refine below_set ?_ GE125.out) | exact HB.out)))); (case aL => have := LMc106.out; omega); intro v158 w115 ho hb hg hat; rw [← Ny157.out] at ho; have n0_ := Aside0.mk (Kd.R_after (ok := (fun k_ => some k_ ≠ (.slice (some ⟨go105, 0, none⟩) x9_4.length co110 : Value).ownBlock ∧ some k_ ≠ (u126002 : Value).ownBlock ∧ some k_ ≠ (u126003 : Value).ownBlock)) (by (with_reducible repeat (first | apply q2a | apply q2n | apply q2d)); exact Kd.R_mono (Kd.R_far (p := ⟨gb125, 1, none⟩) (Kd.R_types HO_8.out BK125.out (by decide)) (fun _ hk => hk.2) (.int .i64 (wrap64 (x126001_4 + 1)))) (fun _ hk => ⟨⟨hk.1.2, ⟨hk.1.1.2.1, hk.1.1.2.2⟩⟩, hk.1.1.1⟩)) hg hat); have n1_ := Aside0.mk (Kd.R_after (ok := (fun k_ => some k_ ≠ (.slice (some ad146) x8_5.length co109 : Value).ownBlock ∧ some k_ ≠ (u126002 : Value).ownBlock ∧ some k_ ≠ (u126003 : Value).ownBlock)) (by (with_reducible repeat (first | apply q2a | apply q2n | apply q2d)); exact Kd.R_mono (Kd.R_far (p := ⟨gb125, 1, none⟩) (Kd.R_types HO_9.out BK125.out (by decide)) (fun _ hk => hk.2) (.int .i64 (wrap64 (x126001_4 + 1)))) (fun _ hk => ⟨⟨hk.1.2.1, ⟨hk.1.2.2.1, hk.1.2.2.2⟩⟩, hk.1.1⟩)) hg hat); have n2_ := Aside0.mk (Kd.R_after (ok := (fun k_ => some k_ ≠ (.slice (some ad146) x8_5.length co109 : Value).ownBlock ∧ some k_ ≠ (.slice (some ⟨go105, 0, none⟩) x9_4.length co110 : Value).ownBlock ∧ some k_ ≠ (u126003 : Value).ownBlock)) (by (with_reducible repeat (first | apply q2a | apply q2n | apply q2d)); exact Kd.R_mono (Kd.R_far (p := ⟨gb125, 1, none⟩) (Kd.R_types HO_126002.out BK125.out (by decide)) (fun _ hk => hk.2) (.int .i64 (wrap64 (x126001_4 + 1)))) (fun _ hk => ⟨⟨hk.1.1.2.1, ⟨hk.1.2, hk.1.1.2.2⟩⟩, hk.1.1.1⟩)) hg hat); have n3_ := Aside0.mk (Kd.R_after (ok := (fun k_ => some k_ ≠ (.slice (some ad146) x8_5.length co109 : Value).ownBlock ∧ some k_ ≠ (.slice (some ⟨go105, 0, none⟩) x9_4.length co110 : Value).ownBlock ∧ some k_ ≠ (u126002 : Value).ownBlock)) (by (with_reducible repeat (first | apply q2a | apply q2n | apply q2d)); exact Kd.R_mono (Kd.R_far (p := ⟨gb125, 1, none⟩) (Kd.R_types HO_126003.out BK125.out (by decide)) (fun _ hk => hk.2) (.int .i64 (wrap64 (x126001_4 + 1)))) (fun _ hk => ⟨⟨hk.1.1.2.1, ⟨hk.1.2, hk.1.1.2.2⟩⟩, hk.1.1.1⟩)) hg hat); have n4_ := Aside0.mk (blk_grown (g := gb114) (o := .cells #[.int .i64 0, .int .i64 0, .slice none 0 0, .slice none 0 0] 28 (0, 0)) (by (with_reducible repeat (first | refine q2N ?_ _ | refine q2D ?_ | refine q2A ?_ _)); refine blk_far ?_ NB114_125.out _; (with_reducible repeat (first | refine q2N ?_ _ | refine q2D ?_ | refine q2A ?_ _)); exact BK114.out) hg (Kd.Q_ne HO145.out BK114.out (by decide))); have n5_ := Aside0.mk (blk_grown (g := gb125) (o := .cells #[.int .i64 x126000_4, .int .i64 (wrap64 (x126001_4 + 1)), u126002, u126003] 28 (0, 0)) (by (with_reducible repeat (first | refine q2N ?_ _ | refine q2D ?_ | refine q2A ?_ _)); refine blk_put (cs := #[.int .i64 x126000_4, .int .i64 x126001_4, u126002, u126003]) ?_ 1 _ rfl; (with_reducible repeat (first | refine q2N ?_ _ | refine q2D ?_ | refine q2A ?_ _)); exact BK125.out) hg (Kd.Q_ne HO145.out BK125.out (by decide))); have n6_ := Aside0.mk (hb); have n7_ := Aside0.mk (ho); clear HO_8; clear HO_9; clear HO_126002; clear HO_126003; clear BK114; clear BK125; clear HB; clear HO145; have HO_8 := n0_; have HO_9 := n1_; have HO_126002 := n2_; have HO_126003 := n3_; have BK114 := n4_; have BK125 := n5_; have HB := n6_; have HO159 := n7_; clear n0_ n1_ n2_ n3_ n4_ n5_ n6_ n7_; clear ho hb hg hat; have hcz116_0 : w115.cell? ⟨gb125, 0, none⟩ = some (.int .i64 x126000_4) := (blk_cell BK125.out 0).trans rfl; have hcz116_1 : w115.cell? ⟨gb125, 1, none⟩ = some (.int .i64 (wrap64 (x126001_4 + 1))) := (blk_cell BK125.out 1).trans rfl; have hcz116_2 : w115.cell? ⟨gb125, 2, none⟩ = some (u126002) := (blk_cell BK125.out 2).trans rfl; have hcz116_3 : w115.cell? ⟨gb125, 3, none⟩ = some (u126003) := (blk_cell BK125.out 3).trans rfl; have hfz116_0 := blk_frozen BK125.out 0; have hfz116_1 := blk_frozen BK125.out 1; have hfz116_2 := blk_frozen BK125.out 2; have hfz116_3 := blk_frozen BK125.out 3))
                                 go_roundg k5
                                 case measure => have := HJ2.out; have := HJ9.out; have := HK3.out; have := HK4.out; have := HK5.out; omega
                                 case rel => exact ⟨(y157), (x8_5), (y156), (wrap64 (x126000_4 + 1)), (wrap64 (x126001_4 + 1)), (x126002_4), (x126003_4), (u126002), (u126003), H', ⟨by have := HJ2.out; have := HJ9.out; have := HK3.out; have := HK4.out; have := HK5.out; omega⟩, ⟨by (with_reducible repeat (first | apply Kd.Q_alloc | apply Kd.Q_drewN | apply Kd.Q_drew)); exact Kd.Q_mono (Kd.Q_far (p := ⟨gb125, 0, none⟩) (Kd.Q_types HO159.out BK125.out (by decide)) (fun _ hk => hk.2) (.int .i64 (wrap64 (x126000_4 + 1)))) (fun _ hk => ⟨hk.1.1, ⟨hk.1.2.1, ⟨hk.1.2.2.1, hk.1.2.2.2⟩⟩⟩)⟩, ⟨by (with_reducible repeat (first | apply q2a | apply q2n | apply q2d)); exact Kd.R_mono (Kd.R_far (p := ⟨gb125, 0, none⟩) (Kd.R_types HO_8.out BK125.out (by decide)) (fun _ hk => hk.2) (.int .i64 (wrap64 (x126000_4 + 1)))) (fun _ hk => ⟨hk.1.2, ⟨hk.1.1.1, ⟨hk.1.1.2.1, hk.1.1.2.2⟩⟩⟩)⟩, ⟨by (with_reducible repeat (first | apply q2a | apply q2n | apply q2d)); exact Kd.R_mono (Kd.R_far (p := ⟨gb125, 0, none⟩) (Kd.R_types HO_9.out BK125.out (by decide)) (fun _ hk => hk.2) (.int .i64 (wrap64 (x126000_4 + 1)))) (fun _ hk => ⟨hk.1.2, ⟨hk.1.1.1, ⟨hk.1.1.2.1, hk.1.1.2.2⟩⟩⟩)⟩, ⟨by (with_reducible repeat (first | apply q2a | apply q2n | apply q2d)); exact Kd.R_mono (Kd.R_far (p := ⟨gb125, 0, none⟩) (Kd.R_types HO_126002.out BK125.out (by decide)) (fun _ hk => hk.2) (.int .i64 (wrap64 (x126000_4 + 1)))) (fun _ hk => ⟨hk.1.2, ⟨hk.1.1.1, ⟨hk.1.1.2.1, hk.1.1.2.2⟩⟩⟩)⟩, ⟨by (with_reducible repeat (first | apply q2a | apply q2n | apply q2d)); exact Kd.R_mono (Kd.R_far (p := ⟨gb125, 0, none⟩) (Kd.R_types HO_126003.out BK125.out (by decide)) (fun _ hk => hk.2) (.int .i64 (wrap64 (x126000_4 + 1)))) (fun _ hk => ⟨hk.1.2, ⟨hk.1.1.1, ⟨hk.1.1.2.1, hk.1.1.2.2⟩⟩⟩)⟩, ⟨by (with_reducible repeat (first | refine q2N ?_ _ | refine q2D ?_ | refine q2A ?_ _)); refine blk_far ?_ NB114_125.out _; (with_reducible repeat (first | refine q2N ?_ _ | refine q2D ?_ | refine q2A ?_ _)); exact BK114.out⟩, ⟨by (with_reducible repeat (first | refine q2N ?_ _ | refine q2D ?_ | refine q2A ?_ _)); refine blk_put (cs := #[.int .i64 x126000_4, .int .i64 (wrap64 (x126001_4 + 1)), u126002, u126003]) ?_ 0 _ rfl; (with_reducible repeat (first | refine q2N ?_ _ | refine q2D ?_ | refine q2A ?_ _)); exact BK125.out⟩, ⟨by repeat (first | (with_reducible first | exact HB.out | apply q2l | apply q2w | apply q2e | refine below_set ?_ GE114.out | refine below_set ?_ GE125.out) | exact HB.out)⟩⟩
                                ·rw [if_neg c106] at H
                                 exact absurd H (by simp)
                              ·rw [if_neg c93] at H
                               exact absurd H (by simp)
                            ·rw [if_neg c78] at H
                             exact absurd H (by simp)
                           ·rw [if_neg c77] at H
                            exact absurd H (by simp)
                          ·rw [if_neg c76] at H
                           exact absurd H (by simp)
                         ·rw [if_neg c75] at H
                          exact absurd H (by simp)
                        ·rw [if_neg c74] at H
                         exact absurd H (by simp)
                       ·rw [if_neg c73] at H
                        exact absurd H (by simp)
                      ·rw [if_neg c72] at H
                       exact absurd H (by simp)
                  ·rw [if_neg c47] at H
                   have c47b0 : decide (0 < (x7_4.length : Int)) = false := decide_eq_false c47
                   have c47b1 : decide (0 < x7_4.length) = false := decide_eq_false (by omega)
                   clear c47
                   simp only [Option.some.injEq, Prod.mk.injEq] at H
                   obtain ⟨rfl, rfl, rfl, rfl, rfl⟩ := H
                   obtain ⟨Ao117, co117, eo117, _⟩ := Kd.Q_slice HO_7.out
                   subst eo117
                   have hnb118 := NB125_114.out
                   have hnc118 := NB114_125.out
                   have hcz119_0 : wr.cell? ⟨gb125, 0, none⟩ = some (.int .i64 x126000_4) := (blk_cell BK125.out 0).trans rfl
                   have hcz119_1 : wr.cell? ⟨gb125, 1, none⟩ = some (.int .i64 x126001_4) := (blk_cell BK125.out 1).trans rfl
                   have hcz119_2 : wr.cell? ⟨gb125, 2, none⟩ = some (u126002) := (blk_cell BK125.out 2).trans rfl
                   have hcz119_3 : wr.cell? ⟨gb125, 3, none⟩ = some (u126003) := (blk_cell BK125.out 3).trans rfl
                   have hfz119_0 := blk_frozen BK125.out 0
                   have hfz119_1 := blk_frozen BK125.out 1
                   have hfz119_2 := blk_frozen BK125.out 2
                   have hfz119_3 := blk_frozen BK125.out 3
                   have hcz120_0 : wr.cell? ⟨gb114, 0, none⟩ = some (.int .i64 0) := (blk_cell BK114.out 0).trans rfl
                   have hcz120_1 : wr.cell? ⟨gb114, 1, none⟩ = some (.int .i64 0) := (blk_cell BK114.out 1).trans rfl
                   have hcz120_2 : wr.cell? ⟨gb114, 2, none⟩ = some (.slice none 0 0) := (blk_cell BK114.out 2).trans rfl
                   have hcz120_3 : wr.cell? ⟨gb114, 3, none⟩ = some (.slice none 0 0) := (blk_cell BK114.out 3).trans rfl
                   have hfz120_0 := blk_frozen BK114.out 0
                   have hfz120_1 := blk_frozen BK114.out 1
                   have hfz120_2 := blk_frozen BK114.out 2
                   have hfz120_3 := blk_frozen BK114.out 3
                   obtain ⟨Ao121, co121, eo121⟩ := Kd.R_slice HO_126002.out
                   subst eo121
                   obtain ⟨Ao122, co122, eo122⟩ := Kd.R_slice HO_126003.out
                   subst eo122
                   go_wp2
                   refine bodyPost_ret (results_ct rfl _ _ gb114 28 #[.int .i64 x126000_4, .int .i64 x126001_4, .slice Ao121 x126002_4.length co121, .slice Ao122 x126003_4.length co122] (0, 0) _ rfl (by (with_reducible repeat (first | refine q2N ?_ _ | refine q2D ?_ | refine q2A ?_ _)); refine blk_put (cs := #[.int .i64 x126000_4, .int .i64 x126001_4, .slice Ao121 x126002_4.length co121, .slice none 0 0]) ?_ 3 _ rfl; (with_reducible repeat (first | refine q2N ?_ _ | refine q2D ?_ | refine q2A ?_ _)); refine blk_put (cs := #[.int .i64 x126000_4, .int .i64 x126001_4, .slice none 0 0, .slice none 0 0]) ?_ 2 _ rfl; (with_reducible repeat (first | refine q2N ?_ _ | refine q2D ?_ | refine q2A ?_ _)); refine blk_put (cs := #[.int .i64 x126000_4, .int .i64 0, .slice none 0 0, .slice none 0 0]) ?_ 1 _ rfl; (with_reducible repeat (first | refine q2N ?_ _ | refine q2D ?_ | refine q2A ?_ _)); refine blk_put (cs := #[.int .i64 0, .int .i64 0, .slice none 0 0, .slice none 0 0]) ?_ 0 _ rfl; (with_reducible repeat (first | refine q2N ?_ _ | refine q2D ?_ | refine q2A ?_ _)); exact BK114.out) Try.underlying28 rfl (by kernel_rfl)) rfl ?_
                   exact ⟨_, _, by first | rfl | (simp [errW_none, errW_some] <;> rfl) | (simp [*, errW_none, errW_some] <;> rfl), by (with_reducible repeat (first | apply q2a | apply q2n | apply q2d)); exact Kd.R_mono (Kd.R_far (p := ⟨gb114, 3, none⟩) (Kd.R_far (p := ⟨gb114, 2, none⟩) (Kd.R_far (p := ⟨gb114, 1, none⟩) (Kd.R_far (p := ⟨gb114, 0, none⟩) (Kd.R_types HO_126002.out BK114.out (by decide)) (fun _ hk => hk.2) (.int .i64 x126000_4)) (fun _ hk => hk.2) (.int .i64 x126001_4)) (fun _ hk => hk.2) (.slice Ao121 x126002_4.length co121)) (fun _ hk => hk.2) (.slice Ao122 x126003_4.length co122)) (fun _ hk => hk.1.2.2.2), by (with_reducible repeat (first | apply q2a | apply q2n | apply q2d)); exact Kd.R_mono (Kd.R_far (p := ⟨gb114, 3, none⟩) (Kd.R_far (p := ⟨gb114, 2, none⟩) (Kd.R_far (p := ⟨gb114, 1, none⟩) (Kd.R_far (p := ⟨gb114, 0, none⟩) (Kd.R_types HO_126003.out BK114.out (by decide)) (fun _ hk => hk.2) (.int .i64 x126000_4)) (fun _ hk => hk.2) (.int .i64 x126001_4)) (fun _ hk => hk.2) (.slice Ao121 x126002_4.length co121)) (fun _ hk => hk.2) (.slice Ao122 x126003_4.length co122)) (fun _ hk => hk.1.2.2.2), by repeat (first | (with_reducible first | exact HB.out | apply q2l | apply q2w | apply q2e | refine below_set ?_ GE114.out | refine below_set ?_ GE125.out) | exact HB.out)⟩
            ·rw [if_neg c24] at H
             exact absurd H (by simp)
           ·rw [if_neg c23] at H
            exact absurd H (by simp)
          ·rw [if_neg c22] at H
           exact absurd H (by simp)
         ·rw [if_neg c21] at H
          exact absurd H (by simp)
        ·replace c19 := Bool.eq_false_iff.mpr c19
         subst c19
         have H1 : (some (0, 0, ([] : List Int), ([] : List Int), 5)) = some (r1, r2, r3, r4, r5) := by rw [if_neg (show ¬ (false = true) by decide)] at H; exact H
         clear H
         have H := H1
         clear H1
         simp only [Option.some.injEq, Prod.mk.injEq] at H
         obtain ⟨rfl, rfl, rfl, rfl, rfl⟩ := H
         go_wp2_with (first | ((with_reducible refine gate_callee (f := 23) rfl ?_); refine goesL_ (some 37) rfl rfl Try.func23 (by kernel_rfl) rfl #[.slice A0 l0.length c0, .func (.func 24) #[] #[]] rfl (by (try simp only [List.map_toArray, List.map_cons, List.map_nil]); first | done | rfl | (simp only [List.length_drop, List.length_take]; rfl)) ?_; (with_reducible refine (slices_ContainsFunc_at_impl_SortRun_1.calls kj9 _ _ l0 false _ ?side1 ?side2 A14.out).mono ?_); (case side1 => repeat (first | exact (Kd.C_below HR0.out HB.out) | (with_reducible refine Kd.C_alloc ?_ _) | (with_reducible refine Kd.C_drewN ?_ _) | (with_reducible refine Kd.C_drew ?_))); (case side2 => exact HC0.out); rintro e w123 ⟨rfl, hb⟩; refine ⟨_, rfl, ?_⟩; have n0_ := Aside0.mk (blk_below (g := gb114) (o := .cells #[.int .i64 0, .int .i64 0, .slice none 0 0, .slice none 0 0] 28 (0, 0)) (by (with_reducible repeat (first | refine q2N ?_ _ | refine q2D ?_ | refine q2A ?_ _)); exact BK114.out) hb); have n1_ := Aside0.mk (below_step (by repeat (first | (with_reducible first | exact HB.out | apply q2l | apply q2w | apply q2e | refine below_set ?_ GE114.out) | exact HB.out)) hb); clear BK114; clear HB; have BK114 := n0_; have HB := n1_; clear n0_ n1_; (try clear hb); (try clear hb2); (try clear hk); (try clear hi)) | ((with_reducible refine gate_callee (f := 26) rfl ?_); refine goesL_ (some 44) rfl rfl Try.func26 (by kernel_rfl) rfl #[.slice A1 l1.length c1, .int .i64 0, .int .i64 (wrap64 ((l0.length : Int) - 1))] rfl (by (try simp only [List.map_toArray, List.map_cons, List.map_nil]); first | done | rfl | (simp only [List.length_drop, List.length_take]; rfl)) ?_; (with_reducible refine (impl_areFrom.calls kj9 _ _ l1 0 (wrap64 ((l0.length : Int) - 1)) false _ ?side1 ?side2 A18.out).mono ?_); (case side1 => repeat (first | exact (Kd.C_below HR1.out HB.out) | (with_reducible refine Kd.C_alloc ?_ _) | (with_reducible refine Kd.C_drewN ?_ _) | (with_reducible refine Kd.C_drew ?_))); (case side2 => exact HC1.out); rintro e w124 ⟨rfl, hb⟩; refine ⟨_, rfl, ?_⟩; have n0_ := Aside0.mk (blk_below (g := gb114) (o := .cells #[.int .i64 0, .int .i64 0, .slice none 0 0, .slice none 0 0] 28 (0, 0)) (by (with_reducible repeat (first | refine q2N ?_ _ | refine q2D ?_ | refine q2A ?_ _)); exact BK114.out) hb); have n1_ := Aside0.mk (below_step (by repeat (first | (with_reducible first | exact HB.out | apply q2l | apply q2w | apply q2e | refine below_set ?_ GE114.out) | exact HB.out)) hb); clear BK114; clear HB; have BK114 := n0_; have HB := n1_; clear n0_ n1_; (try clear hb); (try clear hb2); (try clear hk); (try clear hi); have hcz125_0 : w124.cell? ⟨gb114, 0, none⟩ = some (.int .i64 0) := (blk_cell BK114.out 0).trans rfl; have hcz125_1 : w124.cell? ⟨gb114, 1, none⟩ = some (.int .i64 0) := (blk_cell BK114.out 1).trans rfl; have hcz125_2 : w124.cell? ⟨gb114, 2, none⟩ = some (.slice none 0 0) := (blk_cell BK114.out 2).trans rfl; have hcz125_3 : w124.cell? ⟨gb114, 3, none⟩ = some (.slice none 0 0) := (blk_cell BK114.out 3).trans rfl; have hfz125_0 := blk_frozen BK114.out 0; have hfz125_1 := blk_frozen BK114.out 1; have hfz125_2 := blk_frozen BK114.out 2; have hfz125_3 := blk_frozen BK114.out 3))
         refine bodyPost_ret (results_ct rfl _ _ gb114 28 #[.int .i64 0, .int .i64 0, .slice none 0 0, .slice none 0 0] (0, 0) _ rfl (by (with_reducible repeat (first | refine q2N ?_ _ | refine q2D ?_ | refine q2A ?_ _)); refine blk_put (cs := #[.int .i64 0, .int .i64 0, .slice none 0 0, .slice none 0 0]) ?_ 3 _ rfl; (with_reducible repeat (first | refine q2N ?_ _ | refine q2D ?_ | refine q2A ?_ _)); refine blk_put (cs := #[.int .i64 0, .int .i64 0, .slice none 0 0, .slice none 0 0]) ?_ 2 _ rfl; (with_reducible repeat (first | refine q2N ?_ _ | refine q2D ?_ | refine q2A ?_ _)); refine blk_put (cs := #[.int .i64 0, .int .i64 0, .slice none 0 0, .slice none 0 0]) ?_ 1 _ rfl; (with_reducible repeat (first | refine q2N ?_ _ | refine q2D ?_ | refine q2A ?_ _)); refine blk_put (cs := #[.int .i64 0, .int .i64 0, .slice none 0 0, .slice none 0 0]) ?_ 0 _ rfl; (with_reducible repeat (first | refine q2N ?_ _ | refine q2D ?_ | refine q2A ?_ _)); exact BK114.out) Try.underlying28 rfl (by kernel_rfl)) rfl ?_
         exact ⟨_, _, by first | rfl | (simp [errW_none, errW_some] <;> rfl) | (simp [*, errW_none, errW_some] <;> rfl), by first | exact Kd.R_nil _ _ _ _ _ | exact Kd.N_nil _ _ _ _ _ | exact Kd.V_nil _ _ _ _ _ | exact Kd.Q_nil _ _ _ _ _ | exact Kd.S_nil _ _ _ _ _, by first | exact Kd.R_nil _ _ _ _ _ | exact Kd.N_nil _ _ _ _ _ | exact Kd.V_nil _ _ _ _ _ | exact Kd.Q_nil _ _ _ _ _ | exact Kd.S_nil _ _ _ _ _, by repeat (first | (with_reducible first | exact HB.out | apply q2l | apply q2w | apply q2e | refine below_set ?_ GE114.out) | exact HB.out)⟩

end Go.Proofs.Ytakpcpbhlohmiaa.K
