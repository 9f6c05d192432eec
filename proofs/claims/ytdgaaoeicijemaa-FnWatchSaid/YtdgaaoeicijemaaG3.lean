-- made by pp.py (wip/tools) out of the translation; Lean checks it
import Derived.Test.YtdgaaoeicijemaaG0
import Derived.Test.YtdgaaoeicijemaaG1
import Derived.Test.YtdgaaoeicijemaaG2
namespace Go.Proofs.Ytdgaaoeicijemaa.G
open Go.RowKit Go.Proofs.YtdgaaoeicijemaaW.PrintWords Go.Proofs.YtdgaaoeicijemaaW.PrintLast Go.Proofs.YtdgaaoeicijemaaW.PrintMore
attribute [local go_sem] max2_int min2_int max_two min_two max_three min_three max_four min_four   -- for this text's walks alone
set_option linter.unusedVariables false
set_option linter.unusedSimpArgs false

/-! ### spec_WatchOf: function 29 -/
mutual
def spec_WatchOf.l0 : Nat → List Nat → Nat → Int → Int → Int → Nat → Nat → Nat → Option (Int × Int × Nat × Nat × Nat × Int)
  | 0, _, _, _, _, _, _, _, _ => none
  | k + 1, x0, x5, x6, x141000, x141001, x141002, x141003, x141004 => if x6 < (x0.length : Int) then (if 0 ≤ x6 then ((spec_l22There.f (rdOf (0 : Nat) x0 x6)).bind fun t144 => (if t144 = true then (if x141000 = 0 then (spec_WatchOf.j1 k x0 x5 x6 (rdOf (0 : Nat) x0 x6) true x141000 x141001 x141002 x141003 x141004) else (spec_WatchOf.j1 k x0 x5 x6 (rdOf (0 : Nat) x0 x6) (fLt .f64 (rdOf (0 : Nat) x0 x6) x141003) x141000 x141001 x141002 x141003 x141004)) else (spec_WatchOf.l0 k x0 x5 (wrap64 (x6 + 1)) x141000 (wrap64 (x141001 + 1)) x141002 x141003 x141004))) else (none)) else (if x141000 = 0 then (some (0, 0, 0, 0, 0, 8)) else ((floatBits .quo .f64 x5 (floatOfInt .f64 x141000)).bind fun t142 => (some (x141000, x141001, t142, x141003, x141004, 0))))
def spec_WatchOf.j1 : Nat → List Nat → Nat → Int → Nat → Bool → Int → Int → Nat → Nat → Nat → Option (Int × Int × Nat × Nat × Nat × Int)
  | 0, _, _, _, _, _, _, _, _, _, _ => none
  | k + 1, x0, x5, x6, x7, x42, x141000, x141001, x141002, x141003, x141004 => if x42 = true then (if x141000 = 0 then ((floatBits .add .f64 x5 x7).bind fun t145 => (spec_WatchOf.l0 k x0 t145 (wrap64 (x6 + 1)) (wrap64 (x141000 + 1)) x141001 x141002 x7 x7)) else (if (fGt .f64 x7 x141004) = true then ((floatBits .add .f64 x5 x7).bind fun t146 => (spec_WatchOf.l0 k x0 t146 (wrap64 (x6 + 1)) (wrap64 (x141000 + 1)) x141001 x141002 x7 x7)) else ((floatBits .add .f64 x5 x7).bind fun t147 => (spec_WatchOf.l0 k x0 t147 (wrap64 (x6 + 1)) (wrap64 (x141000 + 1)) x141001 x141002 x7 x141004)))) else (if x141000 = 0 then ((floatBits .add .f64 x5 x7).bind fun t148 => (spec_WatchOf.l0 k x0 t148 (wrap64 (x6 + 1)) (wrap64 (x141000 + 1)) x141001 x141002 x141003 x7)) else (if (fGt .f64 x7 x141004) = true then ((floatBits .add .f64 x5 x7).bind fun t149 => (spec_WatchOf.l0 k x0 t149 (wrap64 (x6 + 1)) (wrap64 (x141000 + 1)) x141001 x141002 x141003 x7)) else ((floatBits .add .f64 x5 x7).bind fun t150 => (spec_WatchOf.l0 k x0 t150 (wrap64 (x6 + 1)) (wrap64 (x141000 + 1)) x141001 x141002 x141003 x141004))))
end
def spec_WatchOf.f (k : Nat) (l0 : List Nat) : Option (Int × Int × Nat × Nat × Nat × Int) := if (l0.length : Int) > 4096 then (some (0, 0, 0, 0, 0, 2)) else ((spec_l22Trace.f k l0).bind fun t139 => (if t139 = true then (spec_WatchOf.l0 k l0 0 0 0 0 0 0 0) else (some (0, 0, 0, 0, 0, 1))))
theorem spec_WatchOf.mono_l : ∀ k, (∀ y0 y1 y2 y3 y4 y5 y6 y7, LeO (spec_WatchOf.l0 k y0 y1 y2 y3 y4 y5 y6 y7) (spec_WatchOf.l0 (k + 1) y0 y1 y2 y3 y4 y5 y6 y7)) ∧ (∀ y0 y1 y2 y3 y4 y5 y6 y7 y8 y9, LeO (spec_WatchOf.j1 k y0 y1 y2 y3 y4 y5 y6 y7 y8 y9) (spec_WatchOf.j1 (k + 1) y0 y1 y2 y3 y4 y5 y6 y7 y8 y9))
  | 0 => ⟨fun _ _ _ _ _ _ _ _ r h => by simp [spec_WatchOf.l0] at h, fun _ _ _ _ _ _ _ _ _ _ r h => by simp [spec_WatchOf.j1] at h⟩
  | k + 1 => by
    obtain ⟨ih0, ih1⟩ := spec_WatchOf.mono_l k
    refine ⟨?_, ?_⟩
    · intro y0 y1 y2 y3 y4 y5 y6 y7
      unfold spec_WatchOf.l0
      repeat' first
      | (with_reducible exact ih0 _ _ _ _ _ _ _ _)
      | (with_reducible exact ih1 _ _ _ _ _ _ _ _ _ _)
      | (with_reducible exact spec_l22Trace.mono _ _)
      | (with_reducible exact LeO.refl _)
      | (with_reducible exact LeO.none _)
      | (with_reducible refine LeO.ite ?_ ?_)
      | (with_reducible refine LeO.bind ?_ (fun _ => ?_))
      | exact ih0 _ _ _ _ _ _ _ _
      | exact ih1 _ _ _ _ _ _ _ _ _ _
      | exact spec_l22Trace.mono _ _
      | exact LeO.none _
      | refine LeO.ite ?_ ?_
      | refine LeO.bind ?_ (fun _ => ?_)
    · intro y0 y1 y2 y3 y4 y5 y6 y7 y8 y9
      unfold spec_WatchOf.j1
      repeat' first
      | (with_reducible exact ih0 _ _ _ _ _ _ _ _)
      | (with_reducible exact ih1 _ _ _ _ _ _ _ _ _ _)
      | (with_reducible exact spec_l22Trace.mono _ _)
      | (with_reducible exact LeO.refl _)
      | (with_reducible exact LeO.none _)
      | (with_reducible refine LeO.ite ?_ ?_)
      | (with_reducible refine LeO.bind ?_ (fun _ => ?_))
      | exact ih0 _ _ _ _ _ _ _ _
      | exact ih1 _ _ _ _ _ _ _ _ _ _
      | exact spec_l22Trace.mono _ _
      | exact LeO.none _
      | refine LeO.ite ?_ ?_
      | refine LeO.bind ?_ (fun _ => ?_)
theorem spec_WatchOf.mono : ∀ a0 k, LeO (spec_WatchOf.f k a0) (spec_WatchOf.f (k + 1) a0) := by
  intro a0 k
  obtain ⟨ih0, ih1⟩ := spec_WatchOf.mono_l k
  unfold spec_WatchOf.f
  repeat' first
      | (with_reducible exact ih0 _ _ _ _ _ _ _ _)
      | (with_reducible exact ih1 _ _ _ _ _ _ _ _ _ _)
      | (with_reducible exact spec_l22Trace.mono _ _)
      | (with_reducible exact LeO.refl _)
      | (with_reducible exact LeO.none _)
      | (with_reducible refine LeO.ite ?_ ?_)
      | (with_reducible refine LeO.bind ?_ (fun _ => ?_))
      | exact ih0 _ _ _ _ _ _ _ _
      | exact ih1 _ _ _ _ _ _ _ _ _ _
      | exact spec_l22Trace.mono _ _
      | exact LeO.none _
      | refine LeO.ite ?_ ?_
      | refine LeO.bind ?_ (fun _ => ?_)
set_option maxHeartbeats 8000000 in
set_option maxRecDepth 100000 in
theorem spec_WatchOf.calls (k : Nat) (A0 : Option Addr) (c0 : Nat) (l0 : List Nat) (r1 : Int) (r2 : Int) (r3 : Nat) (r4 : Nat) (r5 : Nat) (r6 : Int) (w : World) (hr0 : Kd.C (Opens.flt .f64) w A0 l0.length l0) (hc0 : l0.length ≤ c0) (h : spec_WatchOf.f k l0 = some (r1, r2, r3, r4, r5, r6)) :
    Calls Try.prog 29 #[.slice A0 l0.length c0] w fun e w' => e = .returned (.tuple #[.agg #[.int .i64 r1, .int .i64 r2, .float .f64 r3, .float .f64 r4, .float .f64 r5], .int .i64 r6]) ∧ Below w.heap.size w w' := by
  have hu66 := Try.underlying66
  have HR0 := Aside0.mk hr0
  have HC0 := Aside0.mk hc0
  clear hr0 hc0
  have HB := Aside0.mk (Below.refl w.heap.size w)
  have H : (if (l0.length : Int) > 4096 then (some (0, 0, 0, 0, 0, 2)) else ((spec_l22Trace.f k l0).bind fun t139 => (if t139 = true then (spec_WatchOf.l0 k l0 0 0 0 0 0 0 0) else (some (0, 0, 0, 0, 0, 1))))) = some (r1, r2, r3, r4, r5, r6) := h
  clear h
  by_cases c2 : (l0.length : Int) > 4096
  · rw [if_pos c2] at H
    have c2b0 : decide (4096 < (l0.length : Int)) = true := decide_eq_true c2
    have c2b1 : decide (4096 < l0.length) = true := decide_eq_true (by omega)
    clear c2
    simp only [Option.some.injEq, Prod.mk.injEq] at H
    obtain ⟨rfl, rfl, rfl, rfl, rfl, rfl⟩ := H
    go_enter Try.func29, Try.ntmps29
    go_wp2_with (first | ((with_reducible refine gate_dst (N := 2) rfl ?_); refine box_event ?hg (N := 2) ?hd (cs := #[.int .i64 0, .int .i64 0, .float .f64 0, .float .f64 0, .float .f64 0]) (t := 66) ?hr ?_; (case hd => rfl); (case hg => rfl); (case hr => first | (go_simp; done) | (go_simp; rfl)); intro gb138 hg w3 hbox hb; have n0_ := Aside0.mk (below_step (by repeat (first | (with_reducible first | exact HB.out | apply below_alloc | apply pw_below_drewN | apply below_drew1) | exact HB.out)) hb); have n1_ := Aside0.mk (hbox); have n2_ := Aside0.mk ((by rw [hg]; exact (below_size (by repeat (first | (with_reducible first | exact HB.out | apply below_alloc | apply pw_below_drewN | apply below_drew1) | exact HB.out))) : w.heap.size ≤ gb138)); have n3_ := Aside0.mk ((by rw [hg]; exact (below_size (by repeat (first | (with_reducible first | exact HB.out | apply below_alloc | apply pw_below_drewN | apply below_drew1) | exact HB.out))) : w.heap.size ≤ gb138)); clear HB; have HB := n0_; have BK138 := n1_; have GW138 := n2_; have GE138 := n3_; clear n0_ n1_ n2_ n3_; clear hb hbox hg; have hcz4_0 : w3.cell? ⟨gb138, 0, none⟩ = some (.int .i64 0) := (blk_cell BK138.out 0).trans rfl; have hcz4_1 : w3.cell? ⟨gb138, 1, none⟩ = some (.int .i64 0) := (blk_cell BK138.out 1).trans rfl; have hcz4_2 : w3.cell? ⟨gb138, 2, none⟩ = some (.float .f64 0) := (blk_cell BK138.out 2).trans rfl; have hcz4_3 : w3.cell? ⟨gb138, 3, none⟩ = some (.float .f64 0) := (blk_cell BK138.out 3).trans rfl; have hcz4_4 : w3.cell? ⟨gb138, 4, none⟩ = some (.float .f64 0) := (blk_cell BK138.out 4).trans rfl; have hfz4_0 := blk_frozen BK138.out 0; have hfz4_1 := blk_frozen BK138.out 1; have hfz4_2 := blk_frozen BK138.out 2; have hfz4_3 := blk_frozen BK138.out 3; have hfz4_4 := blk_frozen BK138.out 4))
    refine bodyPost_ret (results_ct rfl _ _ gb138 66 #[.int .i64 0, .int .i64 0, .float .f64 0, .float .f64 0, .float .f64 0] (0, 0) _ rfl (by (with_reducible repeat (first | refine blk_drewN ?_ _ | refine blk_drew ?_ | refine blk_alloc ?_ _)); refine blk_put (cs := #[.int .i64 0, .int .i64 0, .float .f64 0, .float .f64 0, .float .f64 0]) ?_ 4 _ rfl; (with_reducible repeat (first | refine blk_drewN ?_ _ | refine blk_drew ?_ | refine blk_alloc ?_ _)); refine blk_put (cs := #[.int .i64 0, .int .i64 0, .float .f64 0, .float .f64 0, .float .f64 0]) ?_ 3 _ rfl; (with_reducible repeat (first | refine blk_drewN ?_ _ | refine blk_drew ?_ | refine blk_alloc ?_ _)); refine blk_put (cs := #[.int .i64 0, .int .i64 0, .float .f64 0, .float .f64 0, .float .f64 0]) ?_ 2 _ rfl; (with_reducible repeat (first | refine blk_drewN ?_ _ | refine blk_drew ?_ | refine blk_alloc ?_ _)); refine blk_put (cs := #[.int .i64 0, .int .i64 0, .float .f64 0, .float .f64 0, .float .f64 0]) ?_ 1 _ rfl; (with_reducible repeat (first | refine blk_drewN ?_ _ | refine blk_drew ?_ | refine blk_alloc ?_ _)); refine blk_put (cs := #[.int .i64 0, .int .i64 0, .float .f64 0, .float .f64 0, .float .f64 0]) ?_ 0 _ rfl; (with_reducible repeat (first | refine blk_drewN ?_ _ | refine blk_drew ?_ | refine blk_alloc ?_ _)); exact BK138.out) Try.underlying66 rfl (by kernel_rfl)) rfl ?_
    exact ⟨by first | rfl | (simp [errW_none, errW_some] <;> rfl) | (simp [*, errW_none, errW_some] <;> rfl), by repeat (first | (with_reducible first | exact HB.out | apply below_alloc | apply pw_below_drewN | apply below_drew1 | refine below_set ?_ GE138.out) | exact HB.out)⟩
  · rw [if_neg c2] at H
    have c2b0 : decide (4096 < (l0.length : Int)) = false := decide_eq_false c2
    have c2b1 : decide (4096 < l0.length) = false := decide_eq_false (by omega)
    clear c2
    replace H := Option.bind_eq_some_iff.mp H
    obtain ⟨t139, A50, H⟩ := H
    replace H : (if t139 = true then (spec_WatchOf.l0 k l0 0 0 0 0 0 0 0) else (some (0, 0, 0, 0, 0, 1))) = some (r1, r2, r3, r4, r5, r6) := H
    have A5 := Aside0.mk A50
    clear A50
    by_cases c6 : t139 = true
    · subst c6
      have H1 : (spec_WatchOf.l0 k l0 0 0 0 0 0 0 0) = some (r1, r2, r3, r4, r5, r6) := by rw [if_pos rfl] at H; exact H
      clear H
      have H := H1
      clear H1
      have H' := Aside0.mk H
      clear H
      go_enter Try.func29, Try.ntmps29
      go_wp2_with (first | ((with_reducible refine gate_dst (N := 2) rfl ?_); refine box_event ?hg (N := 2) ?hd (cs := #[.int .i64 0, .int .i64 0, .float .f64 0, .float .f64 0, .float .f64 0]) (t := 66) ?hr ?_; (case hd => rfl); (case hg => rfl); (case hr => first | (go_simp; done) | (go_simp; rfl)); intro gb138 hg w7 hbox hb; have n0_ := Aside0.mk (below_step (by repeat (first | (with_reducible first | exact HB.out | apply below_alloc | apply pw_below_drewN | apply below_drew1) | exact HB.out)) hb); have n1_ := Aside0.mk (hbox); have n2_ := Aside0.mk ((by rw [hg]; exact (below_size (by repeat (first | (with_reducible first | exact HB.out | apply below_alloc | apply pw_below_drewN | apply below_drew1) | exact HB.out))) : w.heap.size ≤ gb138)); have n3_ := Aside0.mk ((by rw [hg]; exact (below_size (by repeat (first | (with_reducible first | exact HB.out | apply below_alloc | apply pw_below_drewN | apply below_drew1) | exact HB.out))) : w.heap.size ≤ gb138)); clear HB; have HB := n0_; have BK138 := n1_; have GW138 := n2_; have GE138 := n3_; clear n0_ n1_ n2_ n3_; clear hb hbox hg) | ((with_reducible refine gate_callee (f := 86) rfl ?_); refine goesL_ (some 13) rfl rfl Try.func86 (by kernel_rfl) rfl #[.slice A0 l0.length c0] rfl (by (try simp only [List.map_toArray, List.map_cons, List.map_nil]); first | done | rfl | (simp only [List.length_drop, List.length_take]; rfl)) ?_; (with_reducible refine (spec_l22Trace.calls k _ _ l0 true _ ?side1 ?side2 A5.out).mono ?_); (case side1 => repeat (first | exact (Kd.C_below HR0.out HB.out) | (with_reducible refine Kd.C_alloc ?_ _) | (with_reducible refine Kd.C_drewN ?_ _) | (with_reducible refine Kd.C_drew ?_))); (case side2 => exact HC0.out); rintro e w' ⟨rfl, ⟨nd, rfl⟩⟩; refine ⟨_, rfl, ?_⟩; (try (rw [drewN_self w7]; generalize hq_ : World.drewN w7 _ = w7; have n0_ : Aside0 (w7.heap[gb138]? = some (.cells #[.int .i64 0, .int .i64 0, .float .f64 0, .float .f64 0, .float .f64 0] 66 (0, 0))) := ⟨by rw [← hq_]; exact (by (with_reducible repeat (first | refine blk_drewN ?_ _ | refine blk_drew ?_ | refine blk_alloc ?_ _)); exact BK138.out)⟩; have n1_ : Aside0 (Below w.heap.size w w7) := ⟨by rw [← hq_]; exact (by repeat (first | (with_reducible first | exact HB.out | apply below_alloc | apply pw_below_drewN | apply below_drew1 | refine below_set ?_ GE138.out) | exact HB.out))⟩; clear BK138 HB hq_; have BK138 := n0_; have HB := n1_; clear n0_ n1_))) | ((with_reducible refine gate_dst (N := 4) rfl ?_); refine box_event ?hg (N := 4) ?hd (cs := #[.int .i64 0, .int .i64 0, .float .f64 0, .float .f64 0, .float .f64 0]) (t := 66) ?hr ?_; (case hd => rfl); (case hg => rfl); (case hr => first | (go_simp; done) | (go_simp; rfl)); intro gb140 hg w8 hbox hb; have n0_ := Aside0.mk (blk_below (g := gb138) (o := .cells #[.int .i64 0, .int .i64 0, .float .f64 0, .float .f64 0, .float .f64 0] 66 (0, 0)) (by (with_reducible repeat (first | refine blk_drewN ?_ _ | refine blk_drew ?_ | refine blk_alloc ?_ _)); exact BK138.out) hb); have n1_ := Aside0.mk (below_step (by repeat (first | (with_reducible first | exact HB.out | apply below_alloc | apply pw_below_drewN | apply below_drew1 | refine below_set ?_ GE138.out) | exact HB.out)) hb); have n2_ := Aside0.mk (hbox); have n3_ := Aside0.mk ((by rw [hg]; exact (below_size (by repeat (first | (with_reducible first | exact HB.out | apply below_alloc | apply pw_below_drewN | apply below_drew1 | refine below_set ?_ GE138.out) | exact HB.out))) : w.heap.size ≤ gb140)); have n4_ := Aside0.mk ((by rw [hg]; exact (below_size (by repeat (first | (with_reducible first | exact HB.out | apply below_alloc | apply pw_below_drewN | apply below_drew1 | refine below_set ?_ GE138.out) | exact HB.out))) : w.heap.size ≤ gb140)); have n5_ := Aside0.mk ((by rw [hg]; exact Nat.ne_of_lt (blk_lt (g := gb138) (o := .cells #[.int .i64 0, .int .i64 0, .float .f64 0, .float .f64 0, .float .f64 0] 66 (0, 0)) (by (with_reducible repeat (first | refine blk_drewN ?_ _ | refine blk_drew ?_ | refine blk_alloc ?_ _)); exact BK138.out)) : gb138 ≠ gb140)); have n6_ := Aside0.mk ((by rw [hg]; exact Nat.ne_of_gt (blk_lt (g := gb138) (o := .cells #[.int .i64 0, .int .i64 0, .float .f64 0, .float .f64 0, .float .f64 0] 66 (0, 0)) (by (with_reducible repeat (first | refine blk_drewN ?_ _ | refine blk_drew ?_ | refine blk_alloc ?_ _)); exact BK138.out)) : gb140 ≠ gb138)); clear BK138; clear HB; have BK138 := n0_; have HB := n1_; have BK140 := n2_; have GW140 := n3_; have GE140 := n4_; have NB138_140 := n5_; have NB140_138 := n6_; clear n0_ n1_ n2_ n3_ n4_ n5_ n6_; clear hb hbox hg; have hnb9 := NB140_138.out; have hnc9 := NB138_140.out; have hcz10_0 : w8.cell? ⟨gb140, 0, none⟩ = some (.int .i64 0) := (blk_cell BK140.out 0).trans rfl; have hcz10_1 : w8.cell? ⟨gb140, 1, none⟩ = some (.int .i64 0) := (blk_cell BK140.out 1).trans rfl; have hcz10_2 : w8.cell? ⟨gb140, 2, none⟩ = some (.float .f64 0) := (blk_cell BK140.out 2).trans rfl; have hcz10_3 : w8.cell? ⟨gb140, 3, none⟩ = some (.float .f64 0) := (blk_cell BK140.out 3).trans rfl; have hcz10_4 : w8.cell? ⟨gb140, 4, none⟩ = some (.float .f64 0) := (blk_cell BK140.out 4).trans rfl; have hfz10_0 := blk_frozen BK140.out 0; have hfz10_1 := blk_frozen BK140.out 1; have hfz10_2 := blk_frozen BK140.out 2; have hfz10_3 := blk_frozen BK140.out 3; have hfz10_4 := blk_frozen BK140.out 4))
      go_loopg [5, 6] k (fun kq v5 v6 w' => ∃ (x5_1 : Nat) (x6_1 : Int) (x141000_1 : Int) (x141001_1 : Int) (x141003_1 : Nat) (x141004_1 : Nat), v5 = .float .f64 x5_1 ∧ v6 = .int .i64 x6_1 ∧ Aside0 (spec_WatchOf.l0 kq l0 x5_1 x6_1 x141000_1 x141001_1 0 x141003_1 x141004_1 = some (r1, r2, r3, r4, r5, r6)) ∧ Aside0 (kq ≤ k) ∧ Aside0 (w'.heap[gb138]? = some (.cells #[.int .i64 0, .int .i64 0, .float .f64 0, .float .f64 0, .float .f64 0] 66 (0, 0))) ∧ Aside0 (w'.heap[gb140]? = some (.cells #[.int .i64 x141000_1, .int .i64 x141001_1, .float .f64 0, .float .f64 x141003_1, .float .f64 x141004_1] 66 (0, 0))) ∧ Aside0 (Below w.heap.size w w'))
      case atStart => exact ⟨(0), (0), (0), (0), (0), (0), (by first | rfl | (simp; done) | (simp [*]; done)), (by first | rfl | (simp; done) | (simp [*]; done)), H', ⟨Nat.le_refl _⟩, ⟨by (with_reducible repeat (first | refine blk_drewN ?_ _ | refine blk_drew ?_ | refine blk_alloc ?_ _)); refine blk_far ?_ NB138_140.out _; (with_reducible repeat (first | refine blk_drewN ?_ _ | refine blk_drew ?_ | refine blk_alloc ?_ _)); refine blk_far ?_ NB138_140.out _; (with_reducible repeat (first | refine blk_drewN ?_ _ | refine blk_drew ?_ | refine blk_alloc ?_ _)); refine blk_far ?_ NB138_140.out _; (with_reducible repeat (first | refine blk_drewN ?_ _ | refine blk_drew ?_ | refine blk_alloc ?_ _)); refine blk_far ?_ NB138_140.out _; (with_reducible repeat (first | refine blk_drewN ?_ _ | refine blk_drew ?_ | refine blk_alloc ?_ _)); refine blk_far ?_ NB138_140.out _; (with_reducible repeat (first | refine blk_drewN ?_ _ | refine blk_drew ?_ | refine blk_alloc ?_ _)); exact BK138.out⟩, ⟨by (with_reducible repeat (first | refine blk_drewN ?_ _ | refine blk_drew ?_ | refine blk_alloc ?_ _)); refine blk_put (cs := #[.int .i64 0, .int .i64 0, .float .f64 0, .float .f64 0, .float .f64 0]) ?_ 4 _ rfl; (with_reducible repeat (first | refine blk_drewN ?_ _ | refine blk_drew ?_ | refine blk_alloc ?_ _)); refine blk_put (cs := #[.int .i64 0, .int .i64 0, .float .f64 0, .float .f64 0, .float .f64 0]) ?_ 3 _ rfl; (with_reducible repeat (first | refine blk_drewN ?_ _ | refine blk_drew ?_ | refine blk_alloc ?_ _)); refine blk_put (cs := #[.int .i64 0, .int .i64 0, .float .f64 0, .float .f64 0, .float .f64 0]) ?_ 2 _ rfl; (with_reducible repeat (first | refine blk_drewN ?_ _ | refine blk_drew ?_ | refine blk_alloc ?_ _)); refine blk_put (cs := #[.int .i64 0, .int .i64 0, .float .f64 0, .float .f64 0, .float .f64 0]) ?_ 1 _ rfl; (with_reducible repeat (first | refine blk_drewN ?_ _ | refine blk_drew ?_ | refine blk_alloc ?_ _)); refine blk_put (cs := #[.int .i64 0, .int .i64 0, .float .f64 0, .float .f64 0, .float .f64 0]) ?_ 0 _ rfl; (with_reducible repeat (first | refine blk_drewN ?_ _ | refine blk_drew ?_ | refine blk_alloc ?_ _)); exact BK140.out⟩, ⟨by repeat (first | (with_reducible first | exact HB.out | apply below_alloc | apply pw_below_drewN | apply below_drew1 | refine below_set ?_ GE138.out | refine below_set ?_ GE140.out) | exact HB.out)⟩⟩
      case round =>
        clear H'
        try clear c2
        try clear c2b0
        try clear c2b1
        try clear p2
        try clear c6
        try clear c8
        try clear c9
        try clear hcz10_0
        try clear hcz10_1
        try clear hcz10_2
        try clear hcz10_3
        try clear hcz10_4
        try clear hcz4_0
        try clear hcz4_1
        try clear hcz4_2
        try clear hcz4_3
        try clear hcz4_4
        try clear hfz10_0
        try clear hfz10_1
        try clear hfz10_2
        try clear hfz10_3
        try clear hfz10_4
        try clear hfz4_0
        try clear hfz4_1
        try clear hfz4_2
        try clear hfz4_3
        try clear hfz4_4
        obtain ⟨x5_1, x6_1, x141000_1, x141001_1, x141003_1, x141004_1, rfl, rfl, HA, HK1, BK138, BK140, HB⟩ := hrel
        cases gk with
        | zero => exact absurd HA.out (by simp [spec_WatchOf.l0])
        | succ k1 =>
          have H := HA.out
          clear HA
          simp only [spec_WatchOf.l0] at H
          by_cases c11 : x6_1 < (l0.length : Int)
          · rw [if_pos c11] at H
            have c11b0 : decide (x6_1 < (l0.length : Int)) = true := decide_eq_true c11
            clear c11
            by_cases c12 : 0 ≤ x6_1
            · rw [if_pos c12] at H
              have c12b0 : decide (0 ≤ x6_1) = true := decide_eq_true c12
              clear c12
              replace H := Option.bind_eq_some_iff.mp H
              obtain ⟨t144, A130, H⟩ := H
              replace H : (if t144 = true then (if x141000_1 = 0 then (spec_WatchOf.j1 k1 l0 x5_1 x6_1 (rdOf (0 : Nat) l0 x6_1) true x141000_1 x141001_1 0 x141003_1 x141004_1) else (spec_WatchOf.j1 k1 l0 x5_1 x6_1 (rdOf (0 : Nat) l0 x6_1) (fLt .f64 (rdOf (0 : Nat) l0 x6_1) x141003_1) x141000_1 x141001_1 0 x141003_1 x141004_1)) else (spec_WatchOf.l0 k1 l0 x5_1 (wrap64 (x6_1 + 1)) x141000_1 (wrap64 (x141001_1 + 1)) 0 x141003_1 x141004_1)) = some (r1, r2, r3, r4, r5, r6) := H
              have A13 := Aside0.mk A130
              clear A130
              by_cases c14 : t144 = true
              · subst c14
                have H1 : (if x141000_1 = 0 then (spec_WatchOf.j1 k1 l0 x5_1 x6_1 (rdOf (0 : Nat) l0 x6_1) true x141000_1 x141001_1 0 x141003_1 x141004_1) else (spec_WatchOf.j1 k1 l0 x5_1 x6_1 (rdOf (0 : Nat) l0 x6_1) (fLt .f64 (rdOf (0 : Nat) l0 x6_1) x141003_1) x141000_1 x141001_1 0 x141003_1 x141004_1)) = some (r1, r2, r3, r4, r5, r6) := by rw [if_pos rfl] at H; exact H
                clear H
                have H := H1
                clear H1
                have HC15 := Aside0.mk H
                clear H
                have p143 : 0 ≤ (x6_1 : Int) := of_decide_eq_true (by first | (with_reducible assumption) | assumption)
                have q143 : x6_1 < (l0.length : Int) := of_decide_eq_true (by first | (with_reducible assumption) | assumption)
                obtain ⟨ad143, e143, hx143_0⟩ := Opens.at_flt HR0.out x6_1 p143 q143
                cases e143
                replace hx143_0 := (HB.out.cell (World.block_lt_of_cell? w _ hx143_0)).trans hx143_0
                replace p143 := eq_true p143
                replace q143 := eq_true q143
                go_upto_region 13 with (first | ((with_reducible refine gate_callee (f := 89) rfl ?_); refine goesL_ (some 28) rfl rfl Try.func89 (by kernel_rfl) rfl #[.float .f64 (rdOf (0 : Nat) l0 x6_1)] rfl (by (try simp only [List.map_toArray, List.map_cons, List.map_nil]); first | done | rfl | (simp only [List.length_drop, List.length_take]; rfl)) ?_; (with_reducible refine (spec_l22There.calls (rdOf (0 : Nat) l0 x6_1) true _ A13.out).mono ?_); rintro e w' ⟨rfl, ⟨nd, rfl⟩⟩; refine ⟨_, rfl, ?_⟩))
                (try simp only [Act.put, List.setIfInBounds_toArray, List.set_cons_zero, List.set_cons_succ])
                go_cut [42] (fun v42 wc => ∃ (kq : Nat) (x42_14 : Bool), v42 = .bool x42_14 ∧ Aside0 (spec_WatchOf.j1 kq l0 x5_1 x6_1 (rdOf (0 : Nat) l0 x6_1) x42_14 x141000_1 x141001_1 0 x141003_1 x141004_1 = some (r1, r2, r3, r4, r5, r6)) ∧ Aside0 (kq ≤ k1) ∧ Aside0 (wc.heap[gb138]? = some (.cells #[.int .i64 0, .int .i64 0, .float .f64 0, .float .f64 0, .float .f64 0] 66 (0, 0))) ∧ Aside0 (wc.heap[gb140]? = some (.cells #[.int .i64 x141000_1, .int .i64 x141001_1, .float .f64 0, .float .f64 x141003_1, .float .f64 x141004_1] 66 (0, 0))) ∧ Aside0 (Below w.heap.size w wc))
                case first =>
                  have H := HC15.out
                  clear HC15
                  by_cases c16 : x141000_1 = 0
                  · rw [if_pos c16] at H
                    have c16b0 : (x141000_1 == 0) = true := beq_iff_eq.mpr c16
                    have c16b1 : (x141000_1 != 0) = false := bne_eq_false_iff_eq.mpr c16
                    clear c16
                    (first | rw [c16b0] | (simp only [i64_w, i32_w]; rw [c16b0]) | skip)
                    have H' := Aside0.mk H
                    clear H
                    have hnb17 := NB140_138.out
                    have hnc17 := NB138_140.out
                    have hcz18_0 : wr.cell? ⟨gb140, 0, none⟩ = some (.int .i64 x141000_1) := (blk_cell BK140.out 0).trans rfl
                    have hcz18_1 : wr.cell? ⟨gb140, 1, none⟩ = some (.int .i64 x141001_1) := (blk_cell BK140.out 1).trans rfl
                    have hcz18_2 : wr.cell? ⟨gb140, 2, none⟩ = some (.float .f64 0) := (blk_cell BK140.out 2).trans rfl
                    have hcz18_3 : wr.cell? ⟨gb140, 3, none⟩ = some (.float .f64 x141003_1) := (blk_cell BK140.out 3).trans rfl
                    have hcz18_4 : wr.cell? ⟨gb140, 4, none⟩ = some (.float .f64 x141004_1) := (blk_cell BK140.out 4).trans rfl
                    have hfz18_0 := blk_frozen BK140.out 0
                    have hfz18_1 := blk_frozen BK140.out 1
                    have hfz18_2 := blk_frozen BK140.out 2
                    have hfz18_3 := blk_frozen BK140.out 3
                    have hfz18_4 := blk_frozen BK140.out 4
                    go_wp2
                    go_meet
                    case rel => exact ⟨_, (true), (by first | rfl | (simp; done) | (simp [*]; done)), H', ⟨by have := HK1.out; first | omega | exact Nat.le_refl _⟩, ⟨by (with_reducible repeat (first | refine blk_drewN ?_ _ | refine blk_drew ?_ | refine blk_alloc ?_ _)); exact BK138.out⟩, ⟨by (with_reducible repeat (first | refine blk_drewN ?_ _ | refine blk_drew ?_ | refine blk_alloc ?_ _)); exact BK140.out⟩, ⟨by repeat (first | (with_reducible first | exact HB.out | apply below_alloc | apply pw_below_drewN | apply below_drew1 | refine below_set ?_ GE138.out | refine below_set ?_ GE140.out) | exact HB.out)⟩⟩
                  · rw [if_neg c16] at H
                    have c16b0 : (x141000_1 == 0) = false := beq_eq_false_iff_ne.mpr c16
                    have c16b1 : (x141000_1 != 0) = true := bne_iff_ne.mpr c16
                    (first | rw [c16b0] | (simp only [i64_w, i32_w]; rw [c16b0]) | skip)
                    have H' := Aside0.mk H
                    clear H
                    have hnb19 := NB140_138.out
                    have hnc19 := NB138_140.out
                    have hcz20_0 : wr.cell? ⟨gb140, 0, none⟩ = some (.int .i64 x141000_1) := (blk_cell BK140.out 0).trans rfl
                    have hcz20_1 : wr.cell? ⟨gb140, 1, none⟩ = some (.int .i64 x141001_1) := (blk_cell BK140.out 1).trans rfl
                    have hcz20_2 : wr.cell? ⟨gb140, 2, none⟩ = some (.float .f64 0) := (blk_cell BK140.out 2).trans rfl
                    have hcz20_3 : wr.cell? ⟨gb140, 3, none⟩ = some (.float .f64 x141003_1) := (blk_cell BK140.out 3).trans rfl
                    have hcz20_4 : wr.cell? ⟨gb140, 4, none⟩ = some (.float .f64 x141004_1) := (blk_cell BK140.out 4).trans rfl
                    have hfz20_0 := blk_frozen BK140.out 0
                    have hfz20_1 := blk_frozen BK140.out 1
                    have hfz20_2 := blk_frozen BK140.out 2
                    have hfz20_3 := blk_frozen BK140.out 3
                    have hfz20_4 := blk_frozen BK140.out 4
                    go_wp2
                    go_meet
                    case rel => exact ⟨_, ((fLt .f64 (rdOf (0 : Nat) l0 x6_1) x141003_1)), (by first | rfl | (simp; done) | (simp [*]; done)), H', ⟨by have := HK1.out; first | omega | exact Nat.le_refl _⟩, ⟨by (with_reducible repeat (first | refine blk_drewN ?_ _ | refine blk_drew ?_ | refine blk_alloc ?_ _)); exact BK138.out⟩, ⟨by (with_reducible repeat (first | refine blk_drewN ?_ _ | refine blk_drew ?_ | refine blk_alloc ?_ _)); exact BK140.out⟩, ⟨by repeat (first | (with_reducible first | exact HB.out | apply below_alloc | apply pw_below_drewN | apply below_drew1 | refine below_set ?_ GE138.out | refine below_set ?_ GE140.out) | exact HB.out)⟩⟩
                case rest =>
                  clear HC15
                  try clear c1
                  try clear p1
                  try clear q1
                  try clear hx1
                  try clear c2
                  try clear c2b0
                  try clear c2b1
                  try clear p2
                  try clear c6
                  try clear p6
                  try clear c8
                  try clear c9
                  try clear c11
                  try clear c11b0
                  try clear c12
                  try clear c12b0
                  try clear c14
                  try clear p14
                  try clear q14
                  try clear hx14
                  try clear c16
                  try clear c16b0
                  try clear c16b1
                  try clear c17
                  try clear c19
                  try clear hcz10_0
                  try clear hcz10_1
                  try clear hcz10_2
                  try clear hcz10_3
                  try clear hcz10_4
                  try clear hcz18_0
                  try clear hcz18_1
                  try clear hcz18_2
                  try clear hcz18_3
                  try clear hcz18_4
                  try clear hcz20_0
                  try clear hcz20_1
                  try clear hcz20_2
                  try clear hcz20_3
                  try clear hcz20_4
                  try clear hcz4_0
                  try clear hcz4_1
                  try clear hcz4_2
                  try clear hcz4_3
                  try clear hcz4_4
                  try clear hfz10_0
                  try clear hfz10_1
                  try clear hfz10_2
                  try clear hfz10_3
                  try clear hfz10_4
                  try clear hfz18_0
                  try clear hfz18_1
                  try clear hfz18_2
                  try clear hfz18_3
                  try clear hfz18_4
                  try clear hfz20_0
                  try clear hfz20_1
                  try clear hfz20_2
                  try clear hfz20_3
                  try clear hfz20_4
                  try clear hfz4_0
                  try clear hfz4_1
                  try clear hfz4_2
                  try clear hfz4_3
                  try clear hfz4_4
                  try clear hx143_0
                  try clear p143
                  try clear p2
                  try clear q143
                  obtain ⟨kq, x42_14, rfl, HA, HJ14, BK138, BK140, HB⟩ := hcut
                  cases kq with
                  | zero => exact absurd HA.out (by simp [spec_WatchOf.j1])
                  | succ kj14 =>
                    have H := HA.out
                    clear HA
                    simp only [spec_WatchOf.j1] at H
                    by_cases c21 : x42_14 = true
                    · subst c21
                      have H1 : (if x141000_1 = 0 then ((floatBits .add .f64 x5_1 (rdOf (0 : Nat) l0 x6_1)).bind fun t145 => (spec_WatchOf.l0 kj14 l0 t145 (wrap64 (x6_1 + 1)) (wrap64 (x141000_1 + 1)) x141001_1 0 (rdOf (0 : Nat) l0 x6_1) (rdOf (0 : Nat) l0 x6_1))) else (if (fGt .f64 (rdOf (0 : Nat) l0 x6_1) x141004_1) = true then ((floatBits .add .f64 x5_1 (rdOf (0 : Nat) l0 x6_1)).bind fun t146 => (spec_WatchOf.l0 kj14 l0 t146 (wrap64 (x6_1 + 1)) (wrap64 (x141000_1 + 1)) x141001_1 0 (rdOf (0 : Nat) l0 x6_1) (rdOf (0 : Nat) l0 x6_1))) else ((floatBits .add .f64 x5_1 (rdOf (0 : Nat) l0 x6_1)).bind fun t147 => (spec_WatchOf.l0 kj14 l0 t147 (wrap64 (x6_1 + 1)) (wrap64 (x141000_1 + 1)) x141001_1 0 (rdOf (0 : Nat) l0 x6_1) x141004_1)))) = some (r1, r2, r3, r4, r5, r6) := by rw [if_pos rfl] at H; exact H
                      clear H
                      have H := H1
                      clear H1
                      by_cases c22 : x141000_1 = 0
                      · rw [if_pos c22] at H
                        have c22b0 : (x141000_1 == 0) = true := beq_iff_eq.mpr c22
                        have c22b1 : (x141000_1 != 0) = false := bne_eq_false_iff_eq.mpr c22
                        clear c22
                        replace H := Option.bind_eq_some_iff.mp H
                        obtain ⟨t145, HF_, H⟩ := H
                        replace H : (spec_WatchOf.l0 kj14 l0 t145 (wrap64 (x6_1 + 1)) (wrap64 (x141000_1 + 1)) x141001_1 0 (rdOf (0 : Nat) l0 x6_1) (rdOf (0 : Nat) l0 x6_1)) = some (r1, r2, r3, r4, r5, r6) := H
                        have hfz23_0 : ∀ W_ : World, (binOp .add 35 (.float .f64 x5_1) (.float .f64 (rdOf (0 : Nat) l0 x6_1))).run Try.prog W_ = .ok (.float .f64 t145) W_ := fun W_ => run_float_arith W_ .add 35 .f64 x5_1 (rdOf (0 : Nat) l0 x6_1) t145 HF_
                        clear HF_
                        have H' := Aside0.mk H
                        clear H
                        have hnb24 := NB140_138.out
                        have hnc24 := NB138_140.out
                        have hcz25_0 : wc.cell? ⟨gb140, 0, none⟩ = some (.int .i64 x141000_1) := (blk_cell BK140.out 0).trans rfl
                        have hcz25_1 : wc.cell? ⟨gb140, 1, none⟩ = some (.int .i64 x141001_1) := (blk_cell BK140.out 1).trans rfl
                        have hcz25_2 : wc.cell? ⟨gb140, 2, none⟩ = some (.float .f64 0) := (blk_cell BK140.out 2).trans rfl
                        have hcz25_3 : wc.cell? ⟨gb140, 3, none⟩ = some (.float .f64 x141003_1) := (blk_cell BK140.out 3).trans rfl
                        have hcz25_4 : wc.cell? ⟨gb140, 4, none⟩ = some (.float .f64 x141004_1) := (blk_cell BK140.out 4).trans rfl
                        have hfz25_0 := blk_frozen BK140.out 0
                        have hfz25_1 := blk_frozen BK140.out 1
                        have hfz25_2 := blk_frozen BK140.out 2
                        have hfz25_3 := blk_frozen BK140.out 3
                        have hfz25_4 := blk_frozen BK140.out 4
                        go_wp2
                        go_roundg kj14
                        case measure => have := HK1.out; have := HJ14.out; omega
                        case rel => exact ⟨(t145), (wrap64 (x6_1 + 1)), (wrap64 (x141000_1 + 1)), (x141001_1), ((rdOf (0 : Nat) l0 x6_1)), ((rdOf (0 : Nat) l0 x6_1)), (by first | rfl | (simp; done) | (simp [*]; done)), (by first | rfl | (simp; done) | (simp [*]; done)), H', ⟨by have := HK1.out; have := HJ14.out; omega⟩, ⟨by (with_reducible repeat (first | refine blk_drewN ?_ _ | refine blk_drew ?_ | refine blk_alloc ?_ _)); refine blk_far ?_ NB138_140.out _; (with_reducible repeat (first | refine blk_drewN ?_ _ | refine blk_drew ?_ | refine blk_alloc ?_ _)); refine blk_far ?_ NB138_140.out _; (with_reducible repeat (first | refine blk_drewN ?_ _ | refine blk_drew ?_ | refine blk_alloc ?_ _)); refine blk_far ?_ NB138_140.out _; (with_reducible repeat (first | refine blk_drewN ?_ _ | refine blk_drew ?_ | refine blk_alloc ?_ _)); exact BK138.out⟩, ⟨by (with_reducible repeat (first | refine blk_drewN ?_ _ | refine blk_drew ?_ | refine blk_alloc ?_ _)); refine blk_put (cs := #[.int .i64 x141000_1, .int .i64 x141001_1, .float .f64 0, .float .f64 (rdOf (0 : Nat) l0 x6_1), .float .f64 (rdOf (0 : Nat) l0 x6_1)]) ?_ 0 _ rfl; (with_reducible repeat (first | refine blk_drewN ?_ _ | refine blk_drew ?_ | refine blk_alloc ?_ _)); refine blk_put (cs := #[.int .i64 x141000_1, .int .i64 x141001_1, .float .f64 0, .float .f64 (rdOf (0 : Nat) l0 x6_1), .float .f64 x141004_1]) ?_ 4 _ rfl; (with_reducible repeat (first | refine blk_drewN ?_ _ | refine blk_drew ?_ | refine blk_alloc ?_ _)); refine blk_put (cs := #[.int .i64 x141000_1, .int .i64 x141001_1, .float .f64 0, .float .f64 x141003_1, .float .f64 x141004_1]) ?_ 3 _ rfl; (with_reducible repeat (first | refine blk_drewN ?_ _ | refine blk_drew ?_ | refine blk_alloc ?_ _)); exact BK140.out⟩, ⟨by repeat (first | (with_reducible first | exact HB.out | apply below_alloc | apply pw_below_drewN | apply below_drew1 | refine below_set ?_ GE138.out | refine below_set ?_ GE140.out) | exact HB.out)⟩⟩
                      · rw [if_neg c22] at H
                        have c22b0 : (x141000_1 == 0) = false := beq_eq_false_iff_ne.mpr c22
                        have c22b1 : (x141000_1 != 0) = true := bne_iff_ne.mpr c22
                        by_cases c26 : (fGt .f64 (rdOf (0 : Nat) l0 x6_1) x141004_1) = true
                        · rw [if_pos c26] at H
                          have c26b0 : (fGt .f64 (rdOf (0 : Nat) l0 x6_1) x141004_1) = true := c26
                          clear c26
                          replace H := Option.bind_eq_some_iff.mp H
                          obtain ⟨t146, HF_, H⟩ := H
                          replace H : (spec_WatchOf.l0 kj14 l0 t146 (wrap64 (x6_1 + 1)) (wrap64 (x141000_1 + 1)) x141001_1 0 (rdOf (0 : Nat) l0 x6_1) (rdOf (0 : Nat) l0 x6_1)) = some (r1, r2, r3, r4, r5, r6) := H
                          have hfz27_0 : ∀ W_ : World, (binOp .add 35 (.float .f64 x5_1) (.float .f64 (rdOf (0 : Nat) l0 x6_1))).run Try.prog W_ = .ok (.float .f64 t146) W_ := fun W_ => run_float_arith W_ .add 35 .f64 x5_1 (rdOf (0 : Nat) l0 x6_1) t146 HF_
                          clear HF_
                          have H' := Aside0.mk H
                          clear H
                          have hnb28 := NB140_138.out
                          have hnc28 := NB138_140.out
                          have hcz29_0 : wc.cell? ⟨gb140, 0, none⟩ = some (.int .i64 x141000_1) := (blk_cell BK140.out 0).trans rfl
                          have hcz29_1 : wc.cell? ⟨gb140, 1, none⟩ = some (.int .i64 x141001_1) := (blk_cell BK140.out 1).trans rfl
                          have hcz29_2 : wc.cell? ⟨gb140, 2, none⟩ = some (.float .f64 0) := (blk_cell BK140.out 2).trans rfl
                          have hcz29_3 : wc.cell? ⟨gb140, 3, none⟩ = some (.float .f64 x141003_1) := (blk_cell BK140.out 3).trans rfl
                          have hcz29_4 : wc.cell? ⟨gb140, 4, none⟩ = some (.float .f64 x141004_1) := (blk_cell BK140.out 4).trans rfl
                          have hfz29_0 := blk_frozen BK140.out 0
                          have hfz29_1 := blk_frozen BK140.out 1
                          have hfz29_2 := blk_frozen BK140.out 2
                          have hfz29_3 := blk_frozen BK140.out 3
                          have hfz29_4 := blk_frozen BK140.out 4
                          go_wp2
                          go_roundg kj14
                          case measure => have := HK1.out; have := HJ14.out; omega
                          case rel => exact ⟨(t146), (wrap64 (x6_1 + 1)), (wrap64 (x141000_1 + 1)), (x141001_1), ((rdOf (0 : Nat) l0 x6_1)), ((rdOf (0 : Nat) l0 x6_1)), (by first | rfl | (simp; done) | (simp [*]; done)), (by first | rfl | (simp; done) | (simp [*]; done)), H', ⟨by have := HK1.out; have := HJ14.out; omega⟩, ⟨by (with_reducible repeat (first | refine blk_drewN ?_ _ | refine blk_drew ?_ | refine blk_alloc ?_ _)); refine blk_far ?_ NB138_140.out _; (with_reducible repeat (first | refine blk_drewN ?_ _ | refine blk_drew ?_ | refine blk_alloc ?_ _)); refine blk_far ?_ NB138_140.out _; (with_reducible repeat (first | refine blk_drewN ?_ _ | refine blk_drew ?_ | refine blk_alloc ?_ _)); refine blk_far ?_ NB138_140.out _; (with_reducible repeat (first | refine blk_drewN ?_ _ | refine blk_drew ?_ | refine blk_alloc ?_ _)); exact BK138.out⟩, ⟨by (with_reducible repeat (first | refine blk_drewN ?_ _ | refine blk_drew ?_ | refine blk_alloc ?_ _)); refine blk_put (cs := #[.int .i64 x141000_1, .int .i64 x141001_1, .float .f64 0, .float .f64 (rdOf (0 : Nat) l0 x6_1), .float .f64 (rdOf (0 : Nat) l0 x6_1)]) ?_ 0 _ rfl; (with_reducible repeat (first | refine blk_drewN ?_ _ | refine blk_drew ?_ | refine blk_alloc ?_ _)); refine blk_put (cs := #[.int .i64 x141000_1, .int .i64 x141001_1, .float .f64 0, .float .f64 (rdOf (0 : Nat) l0 x6_1), .float .f64 x141004_1]) ?_ 4 _ rfl; (with_reducible repeat (first | refine blk_drewN ?_ _ | refine blk_drew ?_ | refine blk_alloc ?_ _)); refine blk_put (cs := #[.int .i64 x141000_1, .int .i64 x141001_1, .float .f64 0, .float .f64 x141003_1, .float .f64 x141004_1]) ?_ 3 _ rfl; (with_reducible repeat (first | refine blk_drewN ?_ _ | refine blk_drew ?_ | refine blk_alloc ?_ _)); exact BK140.out⟩, ⟨by repeat (first | (with_reducible first | exact HB.out | apply below_alloc | apply pw_below_drewN | apply below_drew1 | refine below_set ?_ GE138.out | refine below_set ?_ GE140.out) | exact HB.out)⟩⟩
                        · rw [if_neg c26] at H
                          have c26b0 : (fGt .f64 (rdOf (0 : Nat) l0 x6_1) x141004_1) = false := by simpa using c26
                          clear c26
                          replace H := Option.bind_eq_some_iff.mp H
                          obtain ⟨t147, HF_, H⟩ := H
                          replace H : (spec_WatchOf.l0 kj14 l0 t147 (wrap64 (x6_1 + 1)) (wrap64 (x141000_1 + 1)) x141001_1 0 (rdOf (0 : Nat) l0 x6_1) x141004_1) = some (r1, r2, r3, r4, r5, r6) := H
                          have hfz30_0 : ∀ W_ : World, (binOp .add 35 (.float .f64 x5_1) (.float .f64 (rdOf (0 : Nat) l0 x6_1))).run Try.prog W_ = .ok (.float .f64 t147) W_ := fun W_ => run_float_arith W_ .add 35 .f64 x5_1 (rdOf (0 : Nat) l0 x6_1) t147 HF_
                          clear HF_
                          have H' := Aside0.mk H
                          clear H
                          have hnb31 := NB140_138.out
                          have hnc31 := NB138_140.out
                          have hcz32_0 : wc.cell? ⟨gb140, 0, none⟩ = some (.int .i64 x141000_1) := (blk_cell BK140.out 0).trans rfl
                          have hcz32_1 : wc.cell? ⟨gb140, 1, none⟩ = some (.int .i64 x141001_1) := (blk_cell BK140.out 1).trans rfl
                          have hcz32_2 : wc.cell? ⟨gb140, 2, none⟩ = some (.float .f64 0) := (blk_cell BK140.out 2).trans rfl
                          have hcz32_3 : wc.cell? ⟨gb140, 3, none⟩ = some (.float .f64 x141003_1) := (blk_cell BK140.out 3).trans rfl
                          have hcz32_4 : wc.cell? ⟨gb140, 4, none⟩ = some (.float .f64 x141004_1) := (blk_cell BK140.out 4).trans rfl
                          have hfz32_0 := blk_frozen BK140.out 0
                          have hfz32_1 := blk_frozen BK140.out 1
                          have hfz32_2 := blk_frozen BK140.out 2
                          have hfz32_3 := blk_frozen BK140.out 3
                          have hfz32_4 := blk_frozen BK140.out 4
                          go_wp2
                          go_roundg kj14
                          case measure => have := HK1.out; have := HJ14.out; omega
                          case rel => exact ⟨(t147), (wrap64 (x6_1 + 1)), (wrap64 (x141000_1 + 1)), (x141001_1), ((rdOf (0 : Nat) l0 x6_1)), (x141004_1), (by first | rfl | (simp; done) | (simp [*]; done)), (by first | rfl | (simp; done) | (simp [*]; done)), H', ⟨by have := HK1.out; have := HJ14.out; omega⟩, ⟨by (with_reducible repeat (first | refine blk_drewN ?_ _ | refine blk_drew ?_ | refine blk_alloc ?_ _)); refine blk_far ?_ NB138_140.out _; (with_reducible repeat (first | refine blk_drewN ?_ _ | refine blk_drew ?_ | refine blk_alloc ?_ _)); refine blk_far ?_ NB138_140.out _; (with_reducible repeat (first | refine blk_drewN ?_ _ | refine blk_drew ?_ | refine blk_alloc ?_ _)); exact BK138.out⟩, ⟨by (with_reducible repeat (first | refine blk_drewN ?_ _ | refine blk_drew ?_ | refine blk_alloc ?_ _)); refine blk_put (cs := #[.int .i64 x141000_1, .int .i64 x141001_1, .float .f64 0, .float .f64 (rdOf (0 : Nat) l0 x6_1), .float .f64 x141004_1]) ?_ 0 _ rfl; (with_reducible repeat (first | refine blk_drewN ?_ _ | refine blk_drew ?_ | refine blk_alloc ?_ _)); refine blk_put (cs := #[.int .i64 x141000_1, .int .i64 x141001_1, .float .f64 0, .float .f64 x141003_1, .float .f64 x141004_1]) ?_ 3 _ rfl; (with_reducible repeat (first | refine blk_drewN ?_ _ | refine blk_drew ?_ | refine blk_alloc ?_ _)); exact BK140.out⟩, ⟨by repeat (first | (with_reducible first | exact HB.out | apply below_alloc | apply pw_below_drewN | apply below_drew1 | refine below_set ?_ GE138.out | refine below_set ?_ GE140.out) | exact HB.out)⟩⟩
                    · replace c21 := Bool.eq_false_iff.mpr c21
                      subst c21
                      have H1 : (if x141000_1 = 0 then ((floatBits .add .f64 x5_1 (rdOf (0 : Nat) l0 x6_1)).bind fun t148 => (spec_WatchOf.l0 kj14 l0 t148 (wrap64 (x6_1 + 1)) (wrap64 (x141000_1 + 1)) x141001_1 0 x141003_1 (rdOf (0 : Nat) l0 x6_1))) else (if (fGt .f64 (rdOf (0 : Nat) l0 x6_1) x141004_1) = true then ((floatBits .add .f64 x5_1 (rdOf (0 : Nat) l0 x6_1)).bind fun t149 => (spec_WatchOf.l0 kj14 l0 t149 (wrap64 (x6_1 + 1)) (wrap64 (x141000_1 + 1)) x141001_1 0 x141003_1 (rdOf (0 : Nat) l0 x6_1))) else ((floatBits .add .f64 x5_1 (rdOf (0 : Nat) l0 x6_1)).bind fun t150 => (spec_WatchOf.l0 kj14 l0 t150 (wrap64 (x6_1 + 1)) (wrap64 (x141000_1 + 1)) x141001_1 0 x141003_1 x141004_1)))) = some (r1, r2, r3, r4, r5, r6) := by rw [if_neg (show ¬ (false = true) by decide)] at H; exact H
                      clear H
                      have H := H1
                      clear H1
                      by_cases c33 : x141000_1 = 0
                      · rw [if_pos c33] at H
                        have c33b0 : (x141000_1 == 0) = true := beq_iff_eq.mpr c33
                        have c33b1 : (x141000_1 != 0) = false := bne_eq_false_iff_eq.mpr c33
                        clear c33
                        replace H := Option.bind_eq_some_iff.mp H
                        obtain ⟨t148, HF_, H⟩ := H
                        replace H : (spec_WatchOf.l0 kj14 l0 t148 (wrap64 (x6_1 + 1)) (wrap64 (x141000_1 + 1)) x141001_1 0 x141003_1 (rdOf (0 : Nat) l0 x6_1)) = some (r1, r2, r3, r4, r5, r6) := H
                        have hfz34_0 : ∀ W_ : World, (binOp .add 35 (.float .f64 x5_1) (.float .f64 (rdOf (0 : Nat) l0 x6_1))).run Try.prog W_ = .ok (.float .f64 t148) W_ := fun W_ => run_float_arith W_ .add 35 .f64 x5_1 (rdOf (0 : Nat) l0 x6_1) t148 HF_
                        clear HF_
                        have H' := Aside0.mk H
                        clear H
                        have hnb35 := NB140_138.out
                        have hnc35 := NB138_140.out
                        have hcz36_0 : wc.cell? ⟨gb140, 0, none⟩ = some (.int .i64 x141000_1) := (blk_cell BK140.out 0).trans rfl
                        have hcz36_1 : wc.cell? ⟨gb140, 1, none⟩ = some (.int .i64 x141001_1) := (blk_cell BK140.out 1).trans rfl
                        have hcz36_2 : wc.cell? ⟨gb140, 2, none⟩ = some (.float .f64 0) := (blk_cell BK140.out 2).trans rfl
                        have hcz36_3 : wc.cell? ⟨gb140, 3, none⟩ = some (.float .f64 x141003_1) := (blk_cell BK140.out 3).trans rfl
                        have hcz36_4 : wc.cell? ⟨gb140, 4, none⟩ = some (.float .f64 x141004_1) := (blk_cell BK140.out 4).trans rfl
                        have hfz36_0 := blk_frozen BK140.out 0
                        have hfz36_1 := blk_frozen BK140.out 1
                        have hfz36_2 := blk_frozen BK140.out 2
                        have hfz36_3 := blk_frozen BK140.out 3
                        have hfz36_4 := blk_frozen BK140.out 4
                        go_wp2
                        go_roundg kj14
                        case measure => have := HK1.out; have := HJ14.out; omega
                        case rel => exact ⟨(t148), (wrap64 (x6_1 + 1)), (wrap64 (x141000_1 + 1)), (x141001_1), (x141003_1), ((rdOf (0 : Nat) l0 x6_1)), (by first | rfl | (simp; done) | (simp [*]; done)), (by first | rfl | (simp; done) | (simp [*]; done)), H', ⟨by have := HK1.out; have := HJ14.out; omega⟩, ⟨by (with_reducible repeat (first | refine blk_drewN ?_ _ | refine blk_drew ?_ | refine blk_alloc ?_ _)); refine blk_far ?_ NB138_140.out _; (with_reducible repeat (first | refine blk_drewN ?_ _ | refine blk_drew ?_ | refine blk_alloc ?_ _)); refine blk_far ?_ NB138_140.out _; (with_reducible repeat (first | refine blk_drewN ?_ _ | refine blk_drew ?_ | refine blk_alloc ?_ _)); exact BK138.out⟩, ⟨by (with_reducible repeat (first | refine blk_drewN ?_ _ | refine blk_drew ?_ | refine blk_alloc ?_ _)); refine blk_put (cs := #[.int .i64 x141000_1, .int .i64 x141001_1, .float .f64 0, .float .f64 x141003_1, .float .f64 (rdOf (0 : Nat) l0 x6_1)]) ?_ 0 _ rfl; (with_reducible repeat (first | refine blk_drewN ?_ _ | refine blk_drew ?_ | refine blk_alloc ?_ _)); refine blk_put (cs := #[.int .i64 x141000_1, .int .i64 x141001_1, .float .f64 0, .float .f64 x141003_1, .float .f64 x141004_1]) ?_ 4 _ rfl; (with_reducible repeat (first | refine blk_drewN ?_ _ | refine blk_drew ?_ | refine blk_alloc ?_ _)); exact BK140.out⟩, ⟨by repeat (first | (with_reducible first | exact HB.out | apply below_alloc | apply pw_below_drewN | apply below_drew1 | refine below_set ?_ GE138.out | refine below_set ?_ GE140.out) | exact HB.out)⟩⟩
                      · rw [if_neg c33] at H
                        have c33b0 : (x141000_1 == 0) = false := beq_eq_false_iff_ne.mpr c33
                        have c33b1 : (x141000_1 != 0) = true := bne_iff_ne.mpr c33
                        by_cases c37 : (fGt .f64 (rdOf (0 : Nat) l0 x6_1) x141004_1) = true
                        · rw [if_pos c37] at H
                          have c37b0 : (fGt .f64 (rdOf (0 : Nat) l0 x6_1) x141004_1) = true := c37
                          clear c37
                          replace H := Option.bind_eq_some_iff.mp H
                          obtain ⟨t149, HF_, H⟩ := H
                          replace H : (spec_WatchOf.l0 kj14 l0 t149 (wrap64 (x6_1 + 1)) (wrap64 (x141000_1 + 1)) x141001_1 0 x141003_1 (rdOf (0 : Nat) l0 x6_1)) = some (r1, r2, r3, r4, r5, r6) := H
                          have hfz38_0 : ∀ W_ : World, (binOp .add 35 (.float .f64 x5_1) (.float .f64 (rdOf (0 : Nat) l0 x6_1))).run Try.prog W_ = .ok (.float .f64 t149) W_ := fun W_ => run_float_arith W_ .add 35 .f64 x5_1 (rdOf (0 : Nat) l0 x6_1) t149 HF_
                          clear HF_
                          have H' := Aside0.mk H
                          clear H
                          have hnb39 := NB140_138.out
                          have hnc39 := NB138_140.out
                          have hcz40_0 : wc.cell? ⟨gb140, 0, none⟩ = some (.int .i64 x141000_1) := (blk_cell BK140.out 0).trans rfl
                          have hcz40_1 : wc.cell? ⟨gb140, 1, none⟩ = some (.int .i64 x141001_1) := (blk_cell BK140.out 1).trans rfl
                          have hcz40_2 : wc.cell? ⟨gb140, 2, none⟩ = some (.float .f64 0) := (blk_cell BK140.out 2).trans rfl
                          have hcz40_3 : wc.cell? ⟨gb140, 3, none⟩ = some (.float .f64 x141003_1) := (blk_cell BK140.out 3).trans rfl
                          have hcz40_4 : wc.cell? ⟨gb140, 4, none⟩ = some (.float .f64 x141004_1) := (blk_cell BK140.out 4).trans rfl
                          have hfz40_0 := blk_frozen BK140.out 0
                          have hfz40_1 := blk_frozen BK140.out 1
                          have hfz40_2 := blk_frozen BK140.out 2
                          have hfz40_3 := blk_frozen BK140.out 3
                          have hfz40_4 := blk_frozen BK140.out 4
                          go_wp2
                          go_roundg kj14
                          case measure => have := HK1.out; have := HJ14.out; omega
                          case rel => exact ⟨(t149), (wrap64 (x6_1 + 1)), (wrap64 (x141000_1 + 1)), (x141001_1), (x141003_1), ((rdOf (0 : Nat) l0 x6_1)), (by first | rfl | (simp; done) | (simp [*]; done)), (by first | rfl | (simp; done) | (simp [*]; done)), H', ⟨by have := HK1.out; have := HJ14.out; omega⟩, ⟨by (with_reducible repeat (first | refine blk_drewN ?_ _ | refine blk_drew ?_ | refine blk_alloc ?_ _)); refine blk_far ?_ NB138_140.out _; (with_reducible repeat (first | refine blk_drewN ?_ _ | refine blk_drew ?_ | refine blk_alloc ?_ _)); refine blk_far ?_ NB138_140.out _; (with_reducible repeat (first | refine blk_drewN ?_ _ | refine blk_drew ?_ | refine blk_alloc ?_ _)); exact BK138.out⟩, ⟨by (with_reducible repeat (first | refine blk_drewN ?_ _ | refine blk_drew ?_ | refine blk_alloc ?_ _)); refine blk_put (cs := #[.int .i64 x141000_1, .int .i64 x141001_1, .float .f64 0, .float .f64 x141003_1, .float .f64 (rdOf (0 : Nat) l0 x6_1)]) ?_ 0 _ rfl; (with_reducible repeat (first | refine blk_drewN ?_ _ | refine blk_drew ?_ | refine blk_alloc ?_ _)); refine blk_put (cs := #[.int .i64 x141000_1, .int .i64 x141001_1, .float .f64 0, .float .f64 x141003_1, .float .f64 x141004_1]) ?_ 4 _ rfl; (with_reducible repeat (first | refine blk_drewN ?_ _ | refine blk_drew ?_ | refine blk_alloc ?_ _)); exact BK140.out⟩, ⟨by repeat (first | (with_reducible first | exact HB.out | apply below_alloc | apply pw_below_drewN | apply below_drew1 | refine below_set ?_ GE138.out | refine below_set ?_ GE140.out) | exact HB.out)⟩⟩
                        · rw [if_neg c37] at H
                          have c37b0 : (fGt .f64 (rdOf (0 : Nat) l0 x6_1) x141004_1) = false := by simpa using c37
                          clear c37
                          replace H := Option.bind_eq_some_iff.mp H
                          obtain ⟨t150, HF_, H⟩ := H
                          replace H : (spec_WatchOf.l0 kj14 l0 t150 (wrap64 (x6_1 + 1)) (wrap64 (x141000_1 + 1)) x141001_1 0 x141003_1 x141004_1) = some (r1, r2, r3, r4, r5, r6) := H
                          have hfz41_0 : ∀ W_ : World, (binOp .add 35 (.float .f64 x5_1) (.float .f64 (rdOf (0 : Nat) l0 x6_1))).run Try.prog W_ = .ok (.float .f64 t150) W_ := fun W_ => run_float_arith W_ .add 35 .f64 x5_1 (rdOf (0 : Nat) l0 x6_1) t150 HF_
                          clear HF_
                          have H' := Aside0.mk H
                          clear H
                          have hnb42 := NB140_138.out
                          have hnc42 := NB138_140.out
                          have hcz43_0 : wc.cell? ⟨gb140, 0, none⟩ = some (.int .i64 x141000_1) := (blk_cell BK140.out 0).trans rfl
                          have hcz43_1 : wc.cell? ⟨gb140, 1, none⟩ = some (.int .i64 x141001_1) := (blk_cell BK140.out 1).trans rfl
                          have hcz43_2 : wc.cell? ⟨gb140, 2, none⟩ = some (.float .f64 0) := (blk_cell BK140.out 2).trans rfl
                          have hcz43_3 : wc.cell? ⟨gb140, 3, none⟩ = some (.float .f64 x141003_1) := (blk_cell BK140.out 3).trans rfl
                          have hcz43_4 : wc.cell? ⟨gb140, 4, none⟩ = some (.float .f64 x141004_1) := (blk_cell BK140.out 4).trans rfl
                          have hfz43_0 := blk_frozen BK140.out 0
                          have hfz43_1 := blk_frozen BK140.out 1
                          have hfz43_2 := blk_frozen BK140.out 2
                          have hfz43_3 := blk_frozen BK140.out 3
                          have hfz43_4 := blk_frozen BK140.out 4
                          go_wp2
                          go_roundg kj14
                          case measure => have := HK1.out; have := HJ14.out; omega
                          case rel => exact ⟨(t150), (wrap64 (x6_1 + 1)), (wrap64 (x141000_1 + 1)), (x141001_1), (x141003_1), (x141004_1), (by first | rfl | (simp; done) | (simp [*]; done)), (by first | rfl | (simp; done) | (simp [*]; done)), H', ⟨by have := HK1.out; have := HJ14.out; omega⟩, ⟨by (with_reducible repeat (first | refine blk_drewN ?_ _ | refine blk_drew ?_ | refine blk_alloc ?_ _)); refine blk_far ?_ NB138_140.out _; (with_reducible repeat (first | refine blk_drewN ?_ _ | refine blk_drew ?_ | refine blk_alloc ?_ _)); exact BK138.out⟩, ⟨by (with_reducible repeat (first | refine blk_drewN ?_ _ | refine blk_drew ?_ | refine blk_alloc ?_ _)); refine blk_put (cs := #[.int .i64 x141000_1, .int .i64 x141001_1, .float .f64 0, .float .f64 x141003_1, .float .f64 x141004_1]) ?_ 0 _ rfl; (with_reducible repeat (first | refine blk_drewN ?_ _ | refine blk_drew ?_ | refine blk_alloc ?_ _)); exact BK140.out⟩, ⟨by repeat (first | (with_reducible first | exact HB.out | apply below_alloc | apply pw_below_drewN | apply below_drew1 | refine below_set ?_ GE138.out | refine below_set ?_ GE140.out) | exact HB.out)⟩⟩
              · replace c14 := Bool.eq_false_iff.mpr c14
                subst c14
                have H1 : (spec_WatchOf.l0 k1 l0 x5_1 (wrap64 (x6_1 + 1)) x141000_1 (wrap64 (x141001_1 + 1)) 0 x141003_1 x141004_1) = some (r1, r2, r3, r4, r5, r6) := by rw [if_neg (show ¬ (false = true) by decide)] at H; exact H
                clear H
                have H := H1
                clear H1
                have H' := Aside0.mk H
                clear H
                have p143 : 0 ≤ (x6_1 : Int) := of_decide_eq_true (by first | (with_reducible assumption) | assumption)
                have q143 : x6_1 < (l0.length : Int) := of_decide_eq_true (by first | (with_reducible assumption) | assumption)
                obtain ⟨ad143, e143, hx143_0⟩ := Opens.at_flt HR0.out x6_1 p143 q143
                cases e143
                replace hx143_0 := (HB.out.cell (World.block_lt_of_cell? w _ hx143_0)).trans hx143_0
                replace p143 := eq_true p143
                replace q143 := eq_true q143
                go_wp2_with (first | ((with_reducible refine gate_callee (f := 89) rfl ?_); refine goesL_ (some 28) rfl rfl Try.func89 (by kernel_rfl) rfl #[.float .f64 (rdOf (0 : Nat) l0 x6_1)] rfl (by (try simp only [List.map_toArray, List.map_cons, List.map_nil]); first | done | rfl | (simp only [List.length_drop, List.length_take]; rfl)) ?_; (with_reducible refine (spec_l22There.calls (rdOf (0 : Nat) l0 x6_1) false _ A13.out).mono ?_); rintro e w' ⟨rfl, ⟨nd, rfl⟩⟩; refine ⟨_, rfl, ?_⟩; (try (rw [drewN_self wr]; generalize hq_ : World.drewN wr _ = wr; have n0_ : Aside0 (wr.heap[gb138]? = some (.cells #[.int .i64 0, .int .i64 0, .float .f64 0, .float .f64 0, .float .f64 0] 66 (0, 0))) := ⟨by rw [← hq_]; exact (by (with_reducible repeat (first | refine blk_drewN ?_ _ | refine blk_drew ?_ | refine blk_alloc ?_ _)); exact BK138.out)⟩; have n1_ : Aside0 (wr.heap[gb140]? = some (.cells #[.int .i64 x141000_1, .int .i64 x141001_1, .float .f64 0, .float .f64 x141003_1, .float .f64 x141004_1] 66 (0, 0))) := ⟨by rw [← hq_]; exact (by (with_reducible repeat (first | refine blk_drewN ?_ _ | refine blk_drew ?_ | refine blk_alloc ?_ _)); exact BK140.out)⟩; have n2_ : Aside0 (Below w.heap.size w wr) := ⟨by rw [← hq_]; exact (by repeat (first | (with_reducible first | exact HB.out | apply below_alloc | apply pw_below_drewN | apply below_drew1 | refine below_set ?_ GE138.out | refine below_set ?_ GE140.out) | exact HB.out))⟩; clear BK138 BK140 HB hq_; have BK138 := n0_; have BK140 := n1_; have HB := n2_; clear n0_ n1_ n2_)); have hnb44 := NB140_138.out; have hnc44 := NB138_140.out; have hcz45_0 : wr.cell? ⟨gb140, 0, none⟩ = some (.int .i64 x141000_1) := (blk_cell BK140.out 0).trans rfl; have hcz45_1 : wr.cell? ⟨gb140, 1, none⟩ = some (.int .i64 x141001_1) := (blk_cell BK140.out 1).trans rfl; have hcz45_2 : wr.cell? ⟨gb140, 2, none⟩ = some (.float .f64 0) := (blk_cell BK140.out 2).trans rfl; have hcz45_3 : wr.cell? ⟨gb140, 3, none⟩ = some (.float .f64 x141003_1) := (blk_cell BK140.out 3).trans rfl; have hcz45_4 : wr.cell? ⟨gb140, 4, none⟩ = some (.float .f64 x141004_1) := (blk_cell BK140.out 4).trans rfl; have hfz45_0 := blk_frozen BK140.out 0; have hfz45_1 := blk_frozen BK140.out 1; have hfz45_2 := blk_frozen BK140.out 2; have hfz45_3 := blk_frozen BK140.out 3; have hfz45_4 := blk_frozen BK140.out 4))
                go_roundg k1
                case measure => have := HK1.out; omega
                case rel => exact ⟨(x5_1), (wrap64 (x6_1 + 1)), (x141000_1), (wrap64 (x141001_1 + 1)), (x141003_1), (x141004_1), (by first | rfl | (simp; done) | (simp [*]; done)), (by first | rfl | (simp; done) | (simp [*]; done)), H', ⟨by have := HK1.out; omega⟩, ⟨by (with_reducible repeat (first | refine blk_drewN ?_ _ | refine blk_drew ?_ | refine blk_alloc ?_ _)); refine blk_far ?_ NB138_140.out _; (with_reducible repeat (first | refine blk_drewN ?_ _ | refine blk_drew ?_ | refine blk_alloc ?_ _)); exact BK138.out⟩, ⟨by (with_reducible repeat (first | refine blk_drewN ?_ _ | refine blk_drew ?_ | refine blk_alloc ?_ _)); refine blk_put (cs := #[.int .i64 x141000_1, .int .i64 x141001_1, .float .f64 0, .float .f64 x141003_1, .float .f64 x141004_1]) ?_ 1 _ rfl; (with_reducible repeat (first | refine blk_drewN ?_ _ | refine blk_drew ?_ | refine blk_alloc ?_ _)); exact BK140.out⟩, ⟨by repeat (first | (with_reducible first | exact HB.out | apply below_alloc | apply pw_below_drewN | apply below_drew1 | refine below_set ?_ GE138.out | refine below_set ?_ GE140.out) | exact HB.out)⟩⟩
            · rw [if_neg c12] at H
              exact absurd H (by simp)
          · rw [if_neg c11] at H
            have c11b0 : decide (x6_1 < (l0.length : Int)) = false := decide_eq_false c11
            clear c11
            by_cases c46 : x141000_1 = 0
            · rw [if_pos c46] at H
              have c46b0 : (x141000_1 == 0) = true := beq_iff_eq.mpr c46
              have c46b1 : (x141000_1 != 0) = false := bne_eq_false_iff_eq.mpr c46
              clear c46
              simp only [Option.some.injEq, Prod.mk.injEq] at H
              obtain ⟨rfl, rfl, rfl, rfl, rfl, rfl⟩ := H
              have hnb47 := NB140_138.out
              have hnc47 := NB138_140.out
              have hcz48_0 : wr.cell? ⟨gb140, 0, none⟩ = some (.int .i64 x141000_1) := (blk_cell BK140.out 0).trans rfl
              have hcz48_1 : wr.cell? ⟨gb140, 1, none⟩ = some (.int .i64 x141001_1) := (blk_cell BK140.out 1).trans rfl
              have hcz48_2 : wr.cell? ⟨gb140, 2, none⟩ = some (.float .f64 0) := (blk_cell BK140.out 2).trans rfl
              have hcz48_3 : wr.cell? ⟨gb140, 3, none⟩ = some (.float .f64 x141003_1) := (blk_cell BK140.out 3).trans rfl
              have hcz48_4 : wr.cell? ⟨gb140, 4, none⟩ = some (.float .f64 x141004_1) := (blk_cell BK140.out 4).trans rfl
              have hfz48_0 := blk_frozen BK140.out 0
              have hfz48_1 := blk_frozen BK140.out 1
              have hfz48_2 := blk_frozen BK140.out 2
              have hfz48_3 := blk_frozen BK140.out 3
              have hfz48_4 := blk_frozen BK140.out 4
              have hcz49_0 : wr.cell? ⟨gb138, 0, none⟩ = some (.int .i64 0) := (blk_cell BK138.out 0).trans rfl
              have hcz49_1 : wr.cell? ⟨gb138, 1, none⟩ = some (.int .i64 0) := (blk_cell BK138.out 1).trans rfl
              have hcz49_2 : wr.cell? ⟨gb138, 2, none⟩ = some (.float .f64 0) := (blk_cell BK138.out 2).trans rfl
              have hcz49_3 : wr.cell? ⟨gb138, 3, none⟩ = some (.float .f64 0) := (blk_cell BK138.out 3).trans rfl
              have hcz49_4 : wr.cell? ⟨gb138, 4, none⟩ = some (.float .f64 0) := (blk_cell BK138.out 4).trans rfl
              have hfz49_0 := blk_frozen BK138.out 0
              have hfz49_1 := blk_frozen BK138.out 1
              have hfz49_2 := blk_frozen BK138.out 2
              have hfz49_3 := blk_frozen BK138.out 3
              have hfz49_4 := blk_frozen BK138.out 4
              go_wp2
              refine bodyPost_ret (results_ct rfl _ _ gb138 66 #[.int .i64 0, .int .i64 0, .float .f64 0, .float .f64 0, .float .f64 0] (0, 0) _ rfl (by (with_reducible repeat (first | refine blk_drewN ?_ _ | refine blk_drew ?_ | refine blk_alloc ?_ _)); refine blk_put (cs := #[.int .i64 0, .int .i64 0, .float .f64 0, .float .f64 0, .float .f64 0]) ?_ 4 _ rfl; (with_reducible repeat (first | refine blk_drewN ?_ _ | refine blk_drew ?_ | refine blk_alloc ?_ _)); refine blk_put (cs := #[.int .i64 0, .int .i64 0, .float .f64 0, .float .f64 0, .float .f64 0]) ?_ 3 _ rfl; (with_reducible repeat (first | refine blk_drewN ?_ _ | refine blk_drew ?_ | refine blk_alloc ?_ _)); refine blk_put (cs := #[.int .i64 0, .int .i64 0, .float .f64 0, .float .f64 0, .float .f64 0]) ?_ 2 _ rfl; (with_reducible repeat (first | refine blk_drewN ?_ _ | refine blk_drew ?_ | refine blk_alloc ?_ _)); refine blk_put (cs := #[.int .i64 0, .int .i64 0, .float .f64 0, .float .f64 0, .float .f64 0]) ?_ 1 _ rfl; (with_reducible repeat (first | refine blk_drewN ?_ _ | refine blk_drew ?_ | refine blk_alloc ?_ _)); refine blk_put (cs := #[.int .i64 0, .int .i64 0, .float .f64 0, .float .f64 0, .float .f64 0]) ?_ 0 _ rfl; (with_reducible repeat (first | refine blk_drewN ?_ _ | refine blk_drew ?_ | refine blk_alloc ?_ _)); exact BK138.out) Try.underlying66 rfl (by kernel_rfl)) rfl ?_
              exact ⟨by first | rfl | (simp [errW_none, errW_some] <;> rfl) | (simp [*, errW_none, errW_some] <;> rfl), by repeat (first | (with_reducible first | exact HB.out | apply below_alloc | apply pw_below_drewN | apply below_drew1 | refine below_set ?_ GE138.out | refine below_set ?_ GE140.out) | exact HB.out)⟩
            · rw [if_neg c46] at H
              have c46b0 : (x141000_1 == 0) = false := beq_eq_false_iff_ne.mpr c46
              have c46b1 : (x141000_1 != 0) = true := bne_iff_ne.mpr c46
              have hfz141_0 : ∀ W_ : World, (convert 3 35 (.int .i64 x141000_1)).run Try.prog W_ = .ok (.float .f64 (floatOfInt .f64 x141000_1)) W_ := fun W_ => run_convert_int_float W_ 3 35 .i64 .f64 x141000_1 (by rw [Try.underlying3]; rfl) Try.underlying35
              replace H := Option.bind_eq_some_iff.mp H
              obtain ⟨t142, HF_, H⟩ := H
              replace H : (some (x141000_1, x141001_1, t142, x141003_1, x141004_1, 0)) = some (r1, r2, r3, r4, r5, r6) := H
              have hfz50_0 : ∀ W_ : World, (binOp .quo 35 (.float .f64 x5_1) (.float .f64 (floatOfInt .f64 x141000_1))).run Try.prog W_ = .ok (.float .f64 t142) W_ := fun W_ => run_float_arith W_ .quo 35 .f64 x5_1 (floatOfInt .f64 x141000_1) t142 HF_
              clear HF_
              simp only [Option.some.injEq, Prod.mk.injEq] at H
              obtain ⟨rfl, rfl, rfl, rfl, rfl, rfl⟩ := H
              have hnb51 := NB140_138.out
              have hnc51 := NB138_140.out
              have hcz52_0 : wr.cell? ⟨gb140, 0, none⟩ = some (.int .i64 x141000_1) := (blk_cell BK140.out 0).trans rfl
              have hcz52_1 : wr.cell? ⟨gb140, 1, none⟩ = some (.int .i64 x141001_1) := (blk_cell BK140.out 1).trans rfl
              have hcz52_2 : wr.cell? ⟨gb140, 2, none⟩ = some (.float .f64 0) := (blk_cell BK140.out 2).trans rfl
              have hcz52_3 : wr.cell? ⟨gb140, 3, none⟩ = some (.float .f64 x141003_1) := (blk_cell BK140.out 3).trans rfl
              have hcz52_4 : wr.cell? ⟨gb140, 4, none⟩ = some (.float .f64 x141004_1) := (blk_cell BK140.out 4).trans rfl
              have hfz52_0 := blk_frozen BK140.out 0
              have hfz52_1 := blk_frozen BK140.out 1
              have hfz52_2 := blk_frozen BK140.out 2
              have hfz52_3 := blk_frozen BK140.out 3
              have hfz52_4 := blk_frozen BK140.out 4
              have hcz53_0 : wr.cell? ⟨gb138, 0, none⟩ = some (.int .i64 0) := (blk_cell BK138.out 0).trans rfl
              have hcz53_1 : wr.cell? ⟨gb138, 1, none⟩ = some (.int .i64 0) := (blk_cell BK138.out 1).trans rfl
              have hcz53_2 : wr.cell? ⟨gb138, 2, none⟩ = some (.float .f64 0) := (blk_cell BK138.out 2).trans rfl
              have hcz53_3 : wr.cell? ⟨gb138, 3, none⟩ = some (.float .f64 0) := (blk_cell BK138.out 3).trans rfl
              have hcz53_4 : wr.cell? ⟨gb138, 4, none⟩ = some (.float .f64 0) := (blk_cell BK138.out 4).trans rfl
              have hfz53_0 := blk_frozen BK138.out 0
              have hfz53_1 := blk_frozen BK138.out 1
              have hfz53_2 := blk_frozen BK138.out 2
              have hfz53_3 := blk_frozen BK138.out 3
              have hfz53_4 := blk_frozen BK138.out 4
              go_wp2
              refine bodyPost_ret (results_ct rfl _ _ gb138 66 #[.int .i64 x141000_1, .int .i64 x141001_1, .float .f64 t142, .float .f64 x141003_1, .float .f64 x141004_1] (0, 0) _ rfl (by (with_reducible repeat (first | refine blk_drewN ?_ _ | refine blk_drew ?_ | refine blk_alloc ?_ _)); refine blk_put (cs := #[.int .i64 x141000_1, .int .i64 x141001_1, .float .f64 t142, .float .f64 x141003_1, .float .f64 0]) ?_ 4 _ rfl; (with_reducible repeat (first | refine blk_drewN ?_ _ | refine blk_drew ?_ | refine blk_alloc ?_ _)); refine blk_put (cs := #[.int .i64 x141000_1, .int .i64 x141001_1, .float .f64 t142, .float .f64 0, .float .f64 0]) ?_ 3 _ rfl; (with_reducible repeat (first | refine blk_drewN ?_ _ | refine blk_drew ?_ | refine blk_alloc ?_ _)); refine blk_put (cs := #[.int .i64 x141000_1, .int .i64 x141001_1, .float .f64 0, .float .f64 0, .float .f64 0]) ?_ 2 _ rfl; (with_reducible repeat (first | refine blk_drewN ?_ _ | refine blk_drew ?_ | refine blk_alloc ?_ _)); refine blk_put (cs := #[.int .i64 x141000_1, .int .i64 0, .float .f64 0, .float .f64 0, .float .f64 0]) ?_ 1 _ rfl; (with_reducible repeat (first | refine blk_drewN ?_ _ | refine blk_drew ?_ | refine blk_alloc ?_ _)); refine blk_put (cs := #[.int .i64 0, .int .i64 0, .float .f64 0, .float .f64 0, .float .f64 0]) ?_ 0 _ rfl; (with_reducible repeat (first | refine blk_drewN ?_ _ | refine blk_drew ?_ | refine blk_alloc ?_ _)); refine blk_far ?_ NB138_140.out _; (with_reducible repeat (first | refine blk_drewN ?_ _ | refine blk_drew ?_ | refine blk_alloc ?_ _)); exact BK138.out) Try.underlying66 rfl (by kernel_rfl)) rfl ?_
              exact ⟨by first | rfl | (simp [errW_none, errW_some] <;> rfl) | (simp [*, errW_none, errW_some] <;> rfl), by repeat (first | (with_reducible first | exact HB.out | apply below_alloc | apply pw_below_drewN | apply below_drew1 | refine below_set ?_ GE138.out | refine below_set ?_ GE140.out) | exact HB.out)⟩
    · replace c6 := Bool.eq_false_iff.mpr c6
      subst c6
      have H1 : (some (0, 0, 0, 0, 0, 1)) = some (r1, r2, r3, r4, r5, r6) := by rw [if_neg (show ¬ (false = true) by decide)] at H; exact H
      clear H
      have H := H1
      clear H1
      simp only [Option.some.injEq, Prod.mk.injEq] at H
      obtain ⟨rfl, rfl, rfl, rfl, rfl, rfl⟩ := H
      go_enter Try.func29, Try.ntmps29
      go_wp2_with (first | ((with_reducible refine gate_dst (N := 2) rfl ?_); refine box_event ?hg (N := 2) ?hd (cs := #[.int .i64 0, .int .i64 0, .float .f64 0, .float .f64 0, .float .f64 0]) (t := 66) ?hr ?_; (case hd => rfl); (case hg => rfl); (case hr => first | (go_simp; done) | (go_simp; rfl)); intro gb138 hg w54 hbox hb; have n0_ := Aside0.mk (below_step (by repeat (first | (with_reducible first | exact HB.out | apply below_alloc | apply pw_below_drewN | apply below_drew1) | exact HB.out)) hb); have n1_ := Aside0.mk (hbox); have n2_ := Aside0.mk ((by rw [hg]; exact (below_size (by repeat (first | (with_reducible first | exact HB.out | apply below_alloc | apply pw_below_drewN | apply below_drew1) | exact HB.out))) : w.heap.size ≤ gb138)); have n3_ := Aside0.mk ((by rw [hg]; exact (below_size (by repeat (first | (with_reducible first | exact HB.out | apply below_alloc | apply pw_below_drewN | apply below_drew1) | exact HB.out))) : w.heap.size ≤ gb138)); clear HB; have HB := n0_; have BK138 := n1_; have GW138 := n2_; have GE138 := n3_; clear n0_ n1_ n2_ n3_; clear hb hbox hg) | ((with_reducible refine gate_callee (f := 86) rfl ?_); refine goesL_ (some 13) rfl rfl Try.func86 (by kernel_rfl) rfl #[.slice A0 l0.length c0] rfl (by (try simp only [List.map_toArray, List.map_cons, List.map_nil]); first | done | rfl | (simp only [List.length_drop, List.length_take]; rfl)) ?_; (with_reducible refine (spec_l22Trace.calls k _ _ l0 false _ ?side1 ?side2 A5.out).mono ?_); (case side1 => repeat (first | exact (Kd.C_below HR0.out HB.out) | (with_reducible refine Kd.C_alloc ?_ _) | (with_reducible refine Kd.C_drewN ?_ _) | (with_reducible refine Kd.C_drew ?_))); (case side2 => exact HC0.out); rintro e w' ⟨rfl, ⟨nd, rfl⟩⟩; refine ⟨_, rfl, ?_⟩; (try (rw [drewN_self w54]; generalize hq_ : World.drewN w54 _ = w54; have n0_ : Aside0 (w54.heap[gb138]? = some (.cells #[.int .i64 0, .int .i64 0, .float .f64 0, .float .f64 0, .float .f64 0] 66 (0, 0))) := ⟨by rw [← hq_]; exact (by (with_reducible repeat (first | refine blk_drewN ?_ _ | refine blk_drew ?_ | refine blk_alloc ?_ _)); exact BK138.out)⟩; have n1_ : Aside0 (Below w.heap.size w w54) := ⟨by rw [← hq_]; exact (by repeat (first | (with_reducible first | exact HB.out | apply below_alloc | apply pw_below_drewN | apply below_drew1 | refine below_set ?_ GE138.out) | exact HB.out))⟩; clear BK138 HB hq_; have BK138 := n0_; have HB := n1_; clear n0_ n1_)); have hcz55_0 : w54.cell? ⟨gb138, 0, none⟩ = some (.int .i64 0) := (blk_cell BK138.out 0).trans rfl; have hcz55_1 : w54.cell? ⟨gb138, 1, none⟩ = some (.int .i64 0) := (blk_cell BK138.out 1).trans rfl; have hcz55_2 : w54.cell? ⟨gb138, 2, none⟩ = some (.float .f64 0) := (blk_cell BK138.out 2).trans rfl; have hcz55_3 : w54.cell? ⟨gb138, 3, none⟩ = some (.float .f64 0) := (blk_cell BK138.out 3).trans rfl; have hcz55_4 : w54.cell? ⟨gb138, 4, none⟩ = some (.float .f64 0) := (blk_cell BK138.out 4).trans rfl; have hfz55_0 := blk_frozen BK138.out 0; have hfz55_1 := blk_frozen BK138.out 1; have hfz55_2 := blk_frozen BK138.out 2; have hfz55_3 := blk_frozen BK138.out 3; have hfz55_4 := blk_frozen BK138.out 4))
      refine bodyPost_ret (results_ct rfl _ _ gb138 66 #[.int .i64 0, .int .i64 0, .float .f64 0, .float .f64 0, .float .f64 0] (0, 0) _ rfl (by (with_reducible repeat (first | refine blk_drewN ?_ _ | refine blk_drew ?_ | refine blk_alloc ?_ _)); refine blk_put (cs := #[.int .i64 0, .int .i64 0, .float .f64 0, .float .f64 0, .float .f64 0]) ?_ 4 _ rfl; (with_reducible repeat (first | refine blk_drewN ?_ _ | refine blk_drew ?_ | refine blk_alloc ?_ _)); refine blk_put (cs := #[.int .i64 0, .int .i64 0, .float .f64 0, .float .f64 0, .float .f64 0]) ?_ 3 _ rfl; (with_reducible repeat (first | refine blk_drewN ?_ _ | refine blk_drew ?_ | refine blk_alloc ?_ _)); refine blk_put (cs := #[.int .i64 0, .int .i64 0, .float .f64 0, .float .f64 0, .float .f64 0]) ?_ 2 _ rfl; (with_reducible repeat (first | refine blk_drewN ?_ _ | refine blk_drew ?_ | refine blk_alloc ?_ _)); refine blk_put (cs := #[.int .i64 0, .int .i64 0, .float .f64 0, .float .f64 0, .float .f64 0]) ?_ 1 _ rfl; (with_reducible repeat (first | refine blk_drewN ?_ _ | refine blk_drew ?_ | refine blk_alloc ?_ _)); refine blk_put (cs := #[.int .i64 0, .int .i64 0, .float .f64 0, .float .f64 0, .float .f64 0]) ?_ 0 _ rfl; (with_reducible repeat (first | refine blk_drewN ?_ _ | refine blk_drew ?_ | refine blk_alloc ?_ _)); exact BK138.out) Try.underlying66 rfl (by kernel_rfl)) rfl ?_
      exact ⟨by first | rfl | (simp [errW_none, errW_some] <;> rfl) | (simp [*, errW_none, errW_some] <;> rfl), by repeat (first | (with_reducible first | exact HB.out | apply below_alloc | apply pw_below_drewN | apply below_drew1 | refine below_set ?_ GE138.out) | exact HB.out)⟩

/-! ### impl_WarmMinutes: function 30 -/
def impl_WarmMinutes.l0 : Nat → Nat → Nat → Nat → List Nat → Int → Int → Option (Nat × Int)
  | 0, _, _, _, _, _, _ => none
  | k + 1, x1, x2, x8, x33, x34, x35 => if x35 < x34 then (if 0 ≤ x35 then (if x35 < (x33.length : Int) then (if (fGt .f64 (rdOf (0 : Nat) x33 x35) x1) = true then ((floatBits .sub .f64 (rdOf (0 : Nat) x33 x35) x1).bind fun t155 => ((floatToFloatBits .f64 t155 .f32).bind fun t156 => ((floatBits .mul .f32 t156 x2).bind fun t157 => ((floatBits .add .f32 x8 t157).bind fun t158 => (impl_WarmMinutes.l0 k x1 x2 t158 x33 x34 (wrap64 (x35 + 1))))))) else (impl_WarmMinutes.l0 k x1 x2 x8 x33 x34 (wrap64 (x35 + 1)))) else (none)) else (none)) else (some (x8, 0))
def impl_WarmMinutes.f (k : Nat) (l0 : List Nat) (a1 : Nat) (a2 : Nat) : Option (Nat × Int) := (impl_isList_float64.f l0).bind fun t151 => (if t151 = true then ((impl_isTrace.f k l0).bind fun t152 => (if t152 = true then ((impl_isReading.f a1).bind fun t153 => (if t153 = true then (if (fGe .f32 a2 1065353216) = true then (if ((fLe .f32 a2 1082130432) = true) then (impl_WarmMinutes.l0 k a1 a2 0 l0 (l0.length : Int) 0) else (some (0, 1))) else (some (0, 1))) else (some (0, 1)))) else (some (0, 1)))) else (some (0, 2)))
theorem impl_WarmMinutes.mono_l : ∀ k, (∀ y0 y1 y2 y3 y4 y5, LeO (impl_WarmMinutes.l0 k y0 y1 y2 y3 y4 y5) (impl_WarmMinutes.l0 (k + 1) y0 y1 y2 y3 y4 y5))
  | 0 => fun _ _ _ _ _ _ r h => by simp [impl_WarmMinutes.l0] at h
  | k + 1 => by
    have ih0 := impl_WarmMinutes.mono_l k
    · intro y0 y1 y2 y3 y4 y5
      unfold impl_WarmMinutes.l0
      repeat' first
      | (with_reducible exact ih0 _ _ _ _ _ _)
      | (with_reducible exact impl_isTrace.mono _ _)
      | (with_reducible exact LeO.refl _)
      | (with_reducible exact LeO.none _)
      | (with_reducible refine LeO.ite ?_ ?_)
      | (with_reducible refine LeO.bind ?_ (fun _ => ?_))
      | exact ih0 _ _ _ _ _ _
      | exact impl_isTrace.mono _ _
      | exact LeO.none _
      | refine LeO.ite ?_ ?_
      | refine LeO.bind ?_ (fun _ => ?_)
theorem impl_WarmMinutes.mono : ∀ a0 a1 a2 k, LeO (impl_WarmMinutes.f k a0 a1 a2) (impl_WarmMinutes.f (k + 1) a0 a1 a2) := by
  intro a0 a1 a2 k
  have ih0 := impl_WarmMinutes.mono_l k
  unfold impl_WarmMinutes.f
  repeat' first
      | (with_reducible exact ih0 _ _ _ _ _ _)
      | (with_reducible exact impl_isTrace.mono _ _)
      | (with_reducible exact LeO.refl _)
      | (with_reducible exact LeO.none _)
      | (with_reducible refine LeO.ite ?_ ?_)
      | (with_reducible refine LeO.bind ?_ (fun _ => ?_))
      | exact ih0 _ _ _ _ _ _
      | exact impl_isTrace.mono _ _
      | exact LeO.none _
      | refine LeO.ite ?_ ?_
      | refine LeO.bind ?_ (fun _ => ?_)
set_option maxHeartbeats 8000000 in
set_option maxRecDepth 100000 in
theorem impl_WarmMinutes.calls (k : Nat) (A0 : Option Addr) (c0 : Nat) (l0 : List Nat) (a1 : Nat) (a2 : Nat) (r1 : Nat) (r2 : Int) (w : World) (hr0 : Kd.C (Opens.flt .f64) w A0 l0.length l0) (hc0 : l0.length ≤ c0) (h : impl_WarmMinutes.f k l0 a1 a2 = some (r1, r2)) :
    Calls Try.prog 30 #[.slice A0 l0.length c0, .float .f64 a1, .float .f32 a2] w fun e w' => e = .returned (.tuple #[.float .f32 r1, .int .i64 r2]) ∧ Below w.heap.size w w' := by
  have HR0 := Aside0.mk hr0
  have HC0 := Aside0.mk hc0
  clear hr0 hc0
  have HB := Aside0.mk (Below.refl w.heap.size w)
  have H : ((impl_isList_float64.f l0).bind fun t151 => (if t151 = true then ((impl_isTrace.f k l0).bind fun t152 => (if t152 = true then ((impl_isReading.f a1).bind fun t153 => (if t153 = true then (if (fGe .f32 a2 1065353216) = true then (if ((fLe .f32 a2 1082130432) = true) then (impl_WarmMinutes.l0 k a1 a2 0 l0 (l0.length : Int) 0) else (some (0, 1))) else (some (0, 1))) else (some (0, 1)))) else (some (0, 1)))) else (some (0, 2)))) = some (r1, r2) := h
  clear h
  replace H := Option.bind_eq_some_iff.mp H
  obtain ⟨t151, A40, H⟩ := H
  replace H : (if t151 = true then ((impl_isTrace.f k l0).bind fun t152 => (if t152 = true then ((impl_isReading.f a1).bind fun t153 => (if t153 = true then (if (fGe .f32 a2 1065353216) = true then (if ((fLe .f32 a2 1082130432) = true) then (impl_WarmMinutes.l0 k a1 a2 0 l0 (l0.length : Int) 0) else (some (0, 1))) else (some (0, 1))) else (some (0, 1)))) else (some (0, 1)))) else (some (0, 2))) = some (r1, r2) := H
  have A4 := Aside0.mk A40
  clear A40
  by_cases c5 : t151 = true
  · subst c5
    have H1 : ((impl_isTrace.f k l0).bind fun t152 => (if t152 = true then ((impl_isReading.f a1).bind fun t153 => (if t153 = true then (if (fGe .f32 a2 1065353216) = true then (if ((fLe .f32 a2 1082130432) = true) then (impl_WarmMinutes.l0 k a1 a2 0 l0 (l0.length : Int) 0) else (some (0, 1))) else (some (0, 1))) else (some (0, 1)))) else (some (0, 1)))) = some (r1, r2) := by rw [if_pos rfl] at H; exact H
    clear H
    have H := H1
    clear H1
    replace H := Option.bind_eq_some_iff.mp H
    obtain ⟨t152, A60, H⟩ := H
    replace H : (if t152 = true then ((impl_isReading.f a1).bind fun t153 => (if t153 = true then (if (fGe .f32 a2 1065353216) = true then (if ((fLe .f32 a2 1082130432) = true) then (impl_WarmMinutes.l0 k a1 a2 0 l0 (l0.length : Int) 0) else (some (0, 1))) else (some (0, 1))) else (some (0, 1)))) else (some (0, 1))) = some (r1, r2) := H
    have A6 := Aside0.mk A60
    clear A60
    by_cases c7 : t152 = true
    · subst c7
      have H1 : ((impl_isReading.f a1).bind fun t153 => (if t153 = true then (if (fGe .f32 a2 1065353216) = true then (if ((fLe .f32 a2 1082130432) = true) then (impl_WarmMinutes.l0 k a1 a2 0 l0 (l0.length : Int) 0) else (some (0, 1))) else (some (0, 1))) else (some (0, 1)))) = some (r1, r2) := by rw [if_pos rfl] at H; exact H
      clear H
      have H := H1
      clear H1
      replace H := Option.bind_eq_some_iff.mp H
      obtain ⟨t153, A80, H⟩ := H
      replace H : (if t153 = true then (if (fGe .f32 a2 1065353216) = true then (if ((fLe .f32 a2 1082130432) = true) then (impl_WarmMinutes.l0 k a1 a2 0 l0 (l0.length : Int) 0) else (some (0, 1))) else (some (0, 1))) else (some (0, 1))) = some (r1, r2) := H
      have A8 := Aside0.mk A80
      clear A80
      by_cases c9 : t153 = true
      · subst c9
        have H1 : (if (fGe .f32 a2 1065353216) = true then (if ((fLe .f32 a2 1082130432) = true) then (impl_WarmMinutes.l0 k a1 a2 0 l0 (l0.length : Int) 0) else (some (0, 1))) else (some (0, 1))) = some (r1, r2) := by rw [if_pos rfl] at H; exact H
        clear H
        have H := H1
        clear H1
        by_cases c10 : (fGe .f32 a2 1065353216) = true
        · rw [if_pos c10] at H
          have c10b0 : (fGe .f32 a2 1065353216) = true := c10
          clear c10
          by_cases c11 : ((fLe .f32 a2 1082130432) = true)
          · rw [if_pos c11] at H
            have c11b0 : (fLe .f32 a2 1082130432) = true := c11
            clear c11
            have H' := Aside0.mk H
            clear H
            go_enter Try.func30, Try.ntmps30
            go_wp2_with (first | ((with_reducible refine gate_callee (f := 82) rfl ?_); refine goesL_ (some 13) rfl rfl Try.func82 (by kernel_rfl) rfl #[.slice A0 l0.length c0] rfl (by (try simp only [List.map_toArray, List.map_cons, List.map_nil]); first | done | rfl | (simp only [List.length_drop, List.length_take]; rfl)) ?_; (with_reducible refine (impl_isList_float64.calls _ _ l0 true _ ?side1 ?side2 A4.out).mono ?_); (case side1 => repeat (first | exact HR0.out | (with_reducible refine Kd.C_alloc ?_ _) | (with_reducible refine Kd.C_drewN ?_ _) | (with_reducible refine Kd.C_drew ?_))); (case side2 => exact HC0.out); rintro e w' ⟨rfl, ⟨nd, rfl⟩⟩; refine ⟨_, rfl, ?_⟩) | ((with_reducible refine gate_callee (f := 83) rfl ?_); refine goesL_ (some 17) rfl rfl Try.func83 (by kernel_rfl) rfl #[.slice A0 l0.length c0] rfl (by (try simp only [List.map_toArray, List.map_cons, List.map_nil]); first | done | rfl | (simp only [List.length_drop, List.length_take]; rfl)) ?_; (with_reducible refine (impl_isTrace.calls k _ _ l0 true _ ?side1 ?side2 A6.out).mono ?_); (case side1 => repeat (first | exact HR0.out | (with_reducible refine Kd.C_alloc ?_ _) | (with_reducible refine Kd.C_drewN ?_ _) | (with_reducible refine Kd.C_drew ?_))); (case side2 => exact HC0.out); rintro e w12 ⟨rfl, hb⟩; refine ⟨_, rfl, ?_⟩; have n0_ := Aside0.mk (below_step (by repeat (first | (with_reducible first | exact HB.out | apply below_alloc | apply pw_below_drewN | apply below_drew1) | exact HB.out)) hb); clear HB; have HB := n0_; clear n0_; (try clear hb); (try clear hb2); (try clear hk); (try clear hi)) | (go_at_call 84; (with_reducible refine (impl_isReading.calls a1 true _ A8.out).mono ?_); rintro e w' ⟨rfl, ⟨nd, rfl⟩⟩))
            go_loopg [8, 35] k (fun kq v8 v35 w' => ∃ (x8_1 : Nat) (x35_1 : Int), v8 = .float .f32 x8_1 ∧ v35 = .int .i64 x35_1 ∧ Aside0 (impl_WarmMinutes.l0 kq a1 a2 x8_1 l0 (l0.length : Int) x35_1 = some (r1, r2)) ∧ Aside0 (kq ≤ k) ∧ Aside0 (Below w.heap.size w w'))
            case atStart => exact ⟨(0), (0), (by first | rfl | (simp; done) | (simp [*]; done)), (by first | rfl | (simp; done) | (simp [*]; done)), H', ⟨Nat.le_refl _⟩, ⟨by repeat (first | (with_reducible first | exact HB.out | apply below_alloc | apply pw_below_drewN | apply below_drew1) | exact HB.out)⟩⟩
            case round =>
              clear H'
              try clear c1
              try clear p2
              try clear c3
              try clear c5
              try clear c7
              try clear c8
              try clear c9
              try clear c10
              try clear c10b0
              try clear c11
              try clear c11b0
              obtain ⟨x8_1, x35_1, rfl, rfl, HA, HK1, HB⟩ := hrel
              cases gk with
              | zero => exact absurd HA.out (by simp [impl_WarmMinutes.l0])
              | succ k1 =>
                have H := HA.out
                clear HA
                simp only [impl_WarmMinutes.l0] at H
                by_cases c13 : x35_1 < (l0.length : Int)
                · rw [if_pos c13] at H
                  have c13b0 : decide (x35_1 < (l0.length : Int)) = true := decide_eq_true c13
                  clear c13
                  by_cases c14 : 0 ≤ x35_1
                  · rw [if_pos c14] at H
                    have c14b0 : decide (0 ≤ x35_1) = true := decide_eq_true c14
                    clear c14
                    by_cases c15 : x35_1 < (l0.length : Int)
                    · rw [if_pos c15] at H
                      have c15b0 : decide (x35_1 < (l0.length : Int)) = true := decide_eq_true c15
                      clear c15
                      by_cases c16 : (fGt .f64 (rdOf (0 : Nat) l0 x35_1) a1) = true
                      · rw [if_pos c16] at H
                        have c16b0 : (fGt .f64 (rdOf (0 : Nat) l0 x35_1) a1) = true := c16
                        clear c16
                        replace H := Option.bind_eq_some_iff.mp H
                        obtain ⟨t155, HF_, H⟩ := H
                        replace H : ((floatToFloatBits .f64 t155 .f32).bind fun t156 => ((floatBits .mul .f32 t156 a2).bind fun t157 => ((floatBits .add .f32 x8_1 t157).bind fun t158 => (impl_WarmMinutes.l0 k1 a1 a2 t158 l0 (l0.length : Int) (wrap64 (x35_1 + 1)))))) = some (r1, r2) := H
                        have hfz17_0 : ∀ W_ : World, (binOp .sub 35 (.float .f64 (rdOf (0 : Nat) l0 x35_1)) (.float .f64 a1)).run Try.prog W_ = .ok (.float .f64 t155) W_ := fun W_ => run_float_arith W_ .sub 35 .f64 (rdOf (0 : Nat) l0 x35_1) a1 t155 HF_
                        clear HF_
                        replace H := Option.bind_eq_some_iff.mp H
                        obtain ⟨t156, HF_, H⟩ := H
                        replace H : ((floatBits .mul .f32 t156 a2).bind fun t157 => ((floatBits .add .f32 x8_1 t157).bind fun t158 => (impl_WarmMinutes.l0 k1 a1 a2 t158 l0 (l0.length : Int) (wrap64 (x35_1 + 1))))) = some (r1, r2) := H
                        have hfz18_0 : ∀ W_ : World, (convert 35 69 (.float .f64 t155)).run Try.prog W_ = .ok (.float .f32 t156) W_ := fun W_ => run_convert_float_float W_ 35 69 .f64 .f32 t155 t156 (by rw [Try.underlying35]; rfl) Try.underlying69 HF_
                        clear HF_
                        replace H := Option.bind_eq_some_iff.mp H
                        obtain ⟨t157, HF_, H⟩ := H
                        replace H : ((floatBits .add .f32 x8_1 t157).bind fun t158 => (impl_WarmMinutes.l0 k1 a1 a2 t158 l0 (l0.length : Int) (wrap64 (x35_1 + 1)))) = some (r1, r2) := H
                        have hfz19_0 : ∀ W_ : World, (binOp .mul 69 (.float .f32 t156) (.float .f32 a2)).run Try.prog W_ = .ok (.float .f32 t157) W_ := fun W_ => run_float_arith W_ .mul 69 .f32 t156 a2 t157 HF_
                        clear HF_
                        replace H := Option.bind_eq_some_iff.mp H
                        obtain ⟨t158, HF_, H⟩ := H
                        replace H : (impl_WarmMinutes.l0 k1 a1 a2 t158 l0 (l0.length : Int) (wrap64 (x35_1 + 1))) = some (r1, r2) := H
                        have hfz20_0 : ∀ W_ : World, (binOp .add 69 (.float .f32 x8_1) (.float .f32 t157)).run Try.prog W_ = .ok (.float .f32 t158) W_ := fun W_ => run_float_arith W_ .add 69 .f32 x8_1 t157 t158 HF_
                        clear HF_
                        have H' := Aside0.mk H
                        clear H
                        have p154 : 0 ≤ (x35_1 : Int) := of_decide_eq_true (by first | (with_reducible assumption) | assumption)
                        have q154 : x35_1 < (l0.length : Int) := of_decide_eq_true (by first | (with_reducible assumption) | assumption)
                        obtain ⟨ad154, e154, hx154_0⟩ := Opens.at_flt HR0.out x35_1 p154 q154
                        cases e154
                        replace hx154_0 := (HB.out.cell (World.block_lt_of_cell? w _ hx154_0)).trans hx154_0
                        replace p154 := eq_true p154
                        replace q154 := eq_true q154
                        go_wp2
                        go_roundg k1
                        case measure => have := HK1.out; omega
                        case rel => exact ⟨(t158), (wrap64 (x35_1 + 1)), (by first | rfl | (simp; done) | (simp [*]; done)), (by first | rfl | (simp; done) | (simp [*]; done)), H', ⟨by have := HK1.out; omega⟩, ⟨by repeat (first | (with_reducible first | exact HB.out | apply below_alloc | apply pw_below_drewN | apply below_drew1) | exact HB.out)⟩⟩
                      · rw [if_neg c16] at H
                        have c16b0 : (fGt .f64 (rdOf (0 : Nat) l0 x35_1) a1) = false := by simpa using c16
                        clear c16
                        have H' := Aside0.mk H
                        clear H
                        have p154 : 0 ≤ (x35_1 : Int) := of_decide_eq_true (by first | (with_reducible assumption) | assumption)
                        have q154 : x35_1 < (l0.length : Int) := of_decide_eq_true (by first | (with_reducible assumption) | assumption)
                        obtain ⟨ad154, e154, hx154_0⟩ := Opens.at_flt HR0.out x35_1 p154 q154
                        cases e154
                        replace hx154_0 := (HB.out.cell (World.block_lt_of_cell? w _ hx154_0)).trans hx154_0
                        replace p154 := eq_true p154
                        replace q154 := eq_true q154
                        go_wp2
                        go_roundg k1
                        case measure => have := HK1.out; omega
                        case rel => exact ⟨(x8_1), (wrap64 (x35_1 + 1)), (by first | rfl | (simp; done) | (simp [*]; done)), (by first | rfl | (simp; done) | (simp [*]; done)), H', ⟨by have := HK1.out; omega⟩, ⟨by repeat (first | (with_reducible first | exact HB.out | apply below_alloc | apply pw_below_drewN | apply below_drew1) | exact HB.out)⟩⟩
                    · rw [if_neg c15] at H
                      exact absurd H (by simp)
                  · rw [if_neg c14] at H
                    exact absurd H (by simp)
                · rw [if_neg c13] at H
                  have c13b0 : decide (x35_1 < (l0.length : Int)) = false := decide_eq_false c13
                  clear c13
                  simp only [Option.some.injEq, Prod.mk.injEq] at H
                  obtain ⟨rfl, rfl⟩ := H
                  go_wp2
                  go_ret2
                  exact ⟨by first | rfl | (simp [errW_none, errW_some] <;> rfl) | (simp [*, errW_none, errW_some] <;> rfl), by repeat (first | (with_reducible first | exact HB.out | apply below_alloc | apply pw_below_drewN | apply below_drew1) | exact HB.out)⟩
          · rw [if_neg c11] at H
            have c11b0 : (fLe .f32 a2 1082130432) = false := by simpa using c11
            clear c11
            simp only [Option.some.injEq, Prod.mk.injEq] at H
            obtain ⟨rfl, rfl⟩ := H
            go_enter Try.func30, Try.ntmps30
            go_wp2_with (first | ((with_reducible refine gate_callee (f := 82) rfl ?_); refine goesL_ (some 13) rfl rfl Try.func82 (by kernel_rfl) rfl #[.slice A0 l0.length c0] rfl (by (try simp only [List.map_toArray, List.map_cons, List.map_nil]); first | done | rfl | (simp only [List.length_drop, List.length_take]; rfl)) ?_; (with_reducible refine (impl_isList_float64.calls _ _ l0 true _ ?side1 ?side2 A4.out).mono ?_); (case side1 => repeat (first | exact HR0.out | (with_reducible refine Kd.C_alloc ?_ _) | (with_reducible refine Kd.C_drewN ?_ _) | (with_reducible refine Kd.C_drew ?_))); (case side2 => exact HC0.out); rintro e w' ⟨rfl, ⟨nd, rfl⟩⟩; refine ⟨_, rfl, ?_⟩) | ((with_reducible refine gate_callee (f := 83) rfl ?_); refine goesL_ (some 17) rfl rfl Try.func83 (by kernel_rfl) rfl #[.slice A0 l0.length c0] rfl (by (try simp only [List.map_toArray, List.map_cons, List.map_nil]); first | done | rfl | (simp only [List.length_drop, List.length_take]; rfl)) ?_; (with_reducible refine (impl_isTrace.calls k _ _ l0 true _ ?side1 ?side2 A6.out).mono ?_); (case side1 => repeat (first | exact HR0.out | (with_reducible refine Kd.C_alloc ?_ _) | (with_reducible refine Kd.C_drewN ?_ _) | (with_reducible refine Kd.C_drew ?_))); (case side2 => exact HC0.out); rintro e w21 ⟨rfl, hb⟩; refine ⟨_, rfl, ?_⟩; have n0_ := Aside0.mk (below_step (by repeat (first | (with_reducible first | exact HB.out | apply below_alloc | apply pw_below_drewN | apply below_drew1) | exact HB.out)) hb); clear HB; have HB := n0_; clear n0_; (try clear hb); (try clear hb2); (try clear hk); (try clear hi)) | (go_at_call 84; (with_reducible refine (impl_isReading.calls a1 true _ A8.out).mono ?_); rintro e w' ⟨rfl, ⟨nd, rfl⟩⟩))
            go_ret2
            exact ⟨by first | rfl | (simp [errW_none, errW_some] <;> rfl) | (simp [*, errW_none, errW_some] <;> rfl), by repeat (first | (with_reducible first | exact HB.out | apply below_alloc | apply pw_below_drewN | apply below_drew1) | exact HB.out)⟩
        · rw [if_neg c10] at H
          have c10b0 : (fGe .f32 a2 1065353216) = false := by simpa using c10
          clear c10
          simp only [Option.some.injEq, Prod.mk.injEq] at H
          obtain ⟨rfl, rfl⟩ := H
          go_enter Try.func30, Try.ntmps30
          go_wp2_with (first | ((with_reducible refine gate_callee (f := 82) rfl ?_); refine goesL_ (some 13) rfl rfl Try.func82 (by kernel_rfl) rfl #[.slice A0 l0.length c0] rfl (by (try simp only [List.map_toArray, List.map_cons, List.map_nil]); first | done | rfl | (simp only [List.length_drop, List.length_take]; rfl)) ?_; (with_reducible refine (impl_isList_float64.calls _ _ l0 true _ ?side1 ?side2 A4.out).mono ?_); (case side1 => repeat (first | exact HR0.out | (with_reducible refine Kd.C_alloc ?_ _) | (with_reducible refine Kd.C_drewN ?_ _) | (with_reducible refine Kd.C_drew ?_))); (case side2 => exact HC0.out); rintro e w' ⟨rfl, ⟨nd, rfl⟩⟩; refine ⟨_, rfl, ?_⟩) | ((with_reducible refine gate_callee (f := 83) rfl ?_); refine goesL_ (some 17) rfl rfl Try.func83 (by kernel_rfl) rfl #[.slice A0 l0.length c0] rfl (by (try simp only [List.map_toArray, List.map_cons, List.map_nil]); first | done | rfl | (simp only [List.length_drop, List.length_take]; rfl)) ?_; (with_reducible refine (impl_isTrace.calls k _ _ l0 true _ ?side1 ?side2 A6.out).mono ?_); (case side1 => repeat (first | exact HR0.out | (with_reducible refine Kd.C_alloc ?_ _) | (with_reducible refine Kd.C_drewN ?_ _) | (with_reducible refine Kd.C_drew ?_))); (case side2 => exact HC0.out); rintro e w22 ⟨rfl, hb⟩; refine ⟨_, rfl, ?_⟩; have n0_ := Aside0.mk (below_step (by repeat (first | (with_reducible first | exact HB.out | apply below_alloc | apply pw_below_drewN | apply below_drew1) | exact HB.out)) hb); clear HB; have HB := n0_; clear n0_; (try clear hb); (try clear hb2); (try clear hk); (try clear hi)) | (go_at_call 84; (with_reducible refine (impl_isReading.calls a1 true _ A8.out).mono ?_); rintro e w' ⟨rfl, ⟨nd, rfl⟩⟩))
          go_ret2
          exact ⟨by first | rfl | (simp [errW_none, errW_some] <;> rfl) | (simp [*, errW_none, errW_some] <;> rfl), by repeat (first | (with_reducible first | exact HB.out | apply below_alloc | apply pw_below_drewN | apply below_drew1) | exact HB.out)⟩
      · replace c9 := Bool.eq_false_iff.mpr c9
        subst c9
        have H1 : (some (0, 1)) = some (r1, r2) := by rw [if_neg (show ¬ (false = true) by decide)] at H; exact H
        clear H
        have H := H1
        clear H1
        simp only [Option.some.injEq, Prod.mk.injEq] at H
        obtain ⟨rfl, rfl⟩ := H
        go_enter Try.func30, Try.ntmps30
        go_wp2_with (first | ((with_reducible refine gate_callee (f := 82) rfl ?_); refine goesL_ (some 13) rfl rfl Try.func82 (by kernel_rfl) rfl #[.slice A0 l0.length c0] rfl (by (try simp only [List.map_toArray, List.map_cons, List.map_nil]); first | done | rfl | (simp only [List.length_drop, List.length_take]; rfl)) ?_; (with_reducible refine (impl_isList_float64.calls _ _ l0 true _ ?side1 ?side2 A4.out).mono ?_); (case side1 => repeat (first | exact HR0.out | (with_reducible refine Kd.C_alloc ?_ _) | (with_reducible refine Kd.C_drewN ?_ _) | (with_reducible refine Kd.C_drew ?_))); (case side2 => exact HC0.out); rintro e w' ⟨rfl, ⟨nd, rfl⟩⟩; refine ⟨_, rfl, ?_⟩) | ((with_reducible refine gate_callee (f := 83) rfl ?_); refine goesL_ (some 17) rfl rfl Try.func83 (by kernel_rfl) rfl #[.slice A0 l0.length c0] rfl (by (try simp only [List.map_toArray, List.map_cons, List.map_nil]); first | done | rfl | (simp only [List.length_drop, List.length_take]; rfl)) ?_; (with_reducible refine (impl_isTrace.calls k _ _ l0 true _ ?side1 ?side2 A6.out).mono ?_); (case side1 => repeat (first | exact HR0.out | (with_reducible refine Kd.C_alloc ?_ _) | (with_reducible refine Kd.C_drewN ?_ _) | (with_reducible refine Kd.C_drew ?_))); (case side2 => exact HC0.out); rintro e w23 ⟨rfl, hb⟩; refine ⟨_, rfl, ?_⟩; have n0_ := Aside0.mk (below_step (by repeat (first | (with_reducible first | exact HB.out | apply below_alloc | apply pw_below_drewN | apply below_drew1) | exact HB.out)) hb); clear HB; have HB := n0_; clear n0_; (try clear hb); (try clear hb2); (try clear hk); (try clear hi)) | (go_at_call 84; (with_reducible refine (impl_isReading.calls a1 false _ A8.out).mono ?_); rintro e w' ⟨rfl, ⟨nd, rfl⟩⟩))
        go_ret2
        exact ⟨by first | rfl | (simp [errW_none, errW_some] <;> rfl) | (simp [*, errW_none, errW_some] <;> rfl), by repeat (first | (with_reducible first | exact HB.out | apply below_alloc | apply pw_below_drewN | apply below_drew1) | exact HB.out)⟩
    · replace c7 := Bool.eq_false_iff.mpr c7
      subst c7
      have H1 : (some (0, 1)) = some (r1, r2) := by rw [if_neg (show ¬ (false = true) by decide)] at H; exact H
      clear H
      have H := H1
      clear H1
      simp only [Option.some.injEq, Prod.mk.injEq] at H
      obtain ⟨rfl, rfl⟩ := H
      go_enter Try.func30, Try.ntmps30
      go_wp2_with (first | ((with_reducible refine gate_callee (f := 82) rfl ?_); refine goesL_ (some 13) rfl rfl Try.func82 (by kernel_rfl) rfl #[.slice A0 l0.length c0] rfl (by (try simp only [List.map_toArray, List.map_cons, List.map_nil]); first | done | rfl | (simp only [List.length_drop, List.length_take]; rfl)) ?_; (with_reducible refine (impl_isList_float64.calls _ _ l0 true _ ?side1 ?side2 A4.out).mono ?_); (case side1 => repeat (first | exact HR0.out | (with_reducible refine Kd.C_alloc ?_ _) | (with_reducible refine Kd.C_drewN ?_ _) | (with_reducible refine Kd.C_drew ?_))); (case side2 => exact HC0.out); rintro e w' ⟨rfl, ⟨nd, rfl⟩⟩; refine ⟨_, rfl, ?_⟩) | ((with_reducible refine gate_callee (f := 83) rfl ?_); refine goesL_ (some 17) rfl rfl Try.func83 (by kernel_rfl) rfl #[.slice A0 l0.length c0] rfl (by (try simp only [List.map_toArray, List.map_cons, List.map_nil]); first | done | rfl | (simp only [List.length_drop, List.length_take]; rfl)) ?_; (with_reducible refine (impl_isTrace.calls k _ _ l0 false _ ?side1 ?side2 A6.out).mono ?_); (case side1 => repeat (first | exact HR0.out | (with_reducible refine Kd.C_alloc ?_ _) | (with_reducible refine Kd.C_drewN ?_ _) | (with_reducible refine Kd.C_drew ?_))); (case side2 => exact HC0.out); rintro e w24 ⟨rfl, hb⟩; refine ⟨_, rfl, ?_⟩; have n0_ := Aside0.mk (below_step (by repeat (first | (with_reducible first | exact HB.out | apply below_alloc | apply pw_below_drewN | apply below_drew1) | exact HB.out)) hb); clear HB; have HB := n0_; clear n0_; (try clear hb); (try clear hb2); (try clear hk); (try clear hi)))
      go_ret2
      exact ⟨by first | rfl | (simp [errW_none, errW_some] <;> rfl) | (simp [*, errW_none, errW_some] <;> rfl), by repeat (first | (with_reducible first | exact HB.out | apply below_alloc | apply pw_below_drewN | apply below_drew1) | exact HB.out)⟩
  · replace c5 := Bool.eq_false_iff.mpr c5
    subst c5
    have H1 : (some (0, 2)) = some (r1, r2) := by rw [if_neg (show ¬ (false = true) by decide)] at H; exact H
    clear H
    have H := H1
    clear H1
    simp only [Option.some.injEq, Prod.mk.injEq] at H
    obtain ⟨rfl, rfl⟩ := H
    go_enter Try.func30, Try.ntmps30
    go_wp2_with (first | ((with_reducible refine gate_callee (f := 82) rfl ?_); refine goesL_ (some 13) rfl rfl Try.func82 (by kernel_rfl) rfl #[.slice A0 l0.length c0] rfl (by (try simp only [List.map_toArray, List.map_cons, List.map_nil]); first | done | rfl | (simp only [List.length_drop, List.length_take]; rfl)) ?_; (with_reducible refine (impl_isList_float64.calls _ _ l0 false _ ?side1 ?side2 A4.out).mono ?_); (case side1 => repeat (first | exact HR0.out | (with_reducible refine Kd.C_alloc ?_ _) | (with_reducible refine Kd.C_drewN ?_ _) | (with_reducible refine Kd.C_drew ?_))); (case side2 => exact HC0.out); rintro e w' ⟨rfl, ⟨nd, rfl⟩⟩; refine ⟨_, rfl, ?_⟩))
    go_ret2
    exact ⟨by first | rfl | (simp [errW_none, errW_some] <;> rfl) | (simp [*, errW_none, errW_some] <;> rfl), by repeat (first | (with_reducible first | exact HB.out | apply below_alloc | apply pw_below_drewN | apply below_drew1) | exact HB.out)⟩

end Go.Proofs.Ytdgaaoeicijemaa.G
