-- made by pp.py (wip/tools) out of the translation; Lean checks it
import Derived.Test.YtdnahjgboabdhaaH0
import Derived.Test.YtdnahjgboabdhaaH1
namespace Go.Proofs.Ytdnahjgboabdhaa.H
open Go.RowKit Go.Proofs.YtdnahjgboabdhaaW.PrintWords Go.Proofs.YtdnahjgboabdhaaW.PrintLast Go.Proofs.YtdnahjgboabdhaaW.PrintMore
attribute [local go_sem] max2_int min2_int max_two min_two max_three min_three max_four min_four   -- for this text's walks alone
set_option linter.unusedVariables false
set_option linter.unusedSimpArgs false

/-! ### spec_WatchOf: function 34 -/
mutual
def spec_WatchOf.l0 : Nat → List Nat → Nat → Int → Int → Int → Nat → Nat → Nat → Option (Int × Int × Nat × Nat × Nat × Int)
  | 0, _, _, _, _, _, _, _, _ => none
  | k + 1, x0, x5, x6, x118000, x118001, x118002, x118003, x118004 => if x6 < (x0.length : Int) then (if 0 ≤ x6 then ((spec_l22There.f (rdOf (0 : Nat) x0 x6)).bind fun t121 => (if t121 = true then (if x118000 = 0 then (spec_WatchOf.j1 k x0 x5 x6 (rdOf (0 : Nat) x0 x6) true x118000 x118001 x118002 x118003 x118004) else (spec_WatchOf.j1 k x0 x5 x6 (rdOf (0 : Nat) x0 x6) (fLt .f64 (rdOf (0 : Nat) x0 x6) x118003) x118000 x118001 x118002 x118003 x118004)) else (spec_WatchOf.l0 k x0 x5 (wrap64 (x6 + 1)) x118000 (wrap64 (x118001 + 1)) x118002 x118003 x118004))) else (none)) else (if x118000 = 0 then (some (0, 0, 0, 0, 0, 8)) else ((floatBits .quo .f64 x5 (floatOfInt .f64 x118000)).bind fun t119 => (some (x118000, x118001, t119, x118003, x118004, 0))))
def spec_WatchOf.j1 : Nat → List Nat → Nat → Int → Nat → Bool → Int → Int → Nat → Nat → Nat → Option (Int × Int × Nat × Nat × Nat × Int)
  | 0, _, _, _, _, _, _, _, _, _, _ => none
  | k + 1, x0, x5, x6, x7, x42, x118000, x118001, x118002, x118003, x118004 => if x42 = true then (if x118000 = 0 then ((floatBits .add .f64 x5 x7).bind fun t122 => (spec_WatchOf.l0 k x0 t122 (wrap64 (x6 + 1)) (wrap64 (x118000 + 1)) x118001 x118002 x7 x7)) else (if (fGt .f64 x7 x118004) = true then ((floatBits .add .f64 x5 x7).bind fun t123 => (spec_WatchOf.l0 k x0 t123 (wrap64 (x6 + 1)) (wrap64 (x118000 + 1)) x118001 x118002 x7 x7)) else ((floatBits .add .f64 x5 x7).bind fun t124 => (spec_WatchOf.l0 k x0 t124 (wrap64 (x6 + 1)) (wrap64 (x118000 + 1)) x118001 x118002 x7 x118004)))) else (if x118000 = 0 then ((floatBits .add .f64 x5 x7).bind fun t125 => (spec_WatchOf.l0 k x0 t125 (wrap64 (x6 + 1)) (wrap64 (x118000 + 1)) x118001 x118002 x118003 x7)) else (if (fGt .f64 x7 x118004) = true then ((floatBits .add .f64 x5 x7).bind fun t126 => (spec_WatchOf.l0 k x0 t126 (wrap64 (x6 + 1)) (wrap64 (x118000 + 1)) x118001 x118002 x118003 x7)) else ((floatBits .add .f64 x5 x7).bind fun t127 => (spec_WatchOf.l0 k x0 t127 (wrap64 (x6 + 1)) (wrap64 (x118000 + 1)) x118001 x118002 x118003 x118004))))
end
def spec_WatchOf.f (k : Nat) (l0 : List Nat) : Option (Int × Int × Nat × Nat × Nat × Int) := if (l0.length : Int) > 4096 then (some (0, 0, 0, 0, 0, 2)) else ((spec_l22Trace.f k l0).bind fun t116 => (if t116 = true then (spec_WatchOf.l0 k l0 0 0 0 0 0 0 0) else (some (0, 0, 0, 0, 0, 1))))
theorem spec_WatchOf.mono_l : ∀ k, (∀ y0 y1 y2 y3 y4 y5 y6 y7, LeO (spec_WatchOf.l0 k y0 y1 y2 y3 y4 y5 y6 y7) (spec_WatchOf.l0 (k + 1) y0 y1 y2 y3 y4 y5 y6 y7)) ∧ (∀ y0 y1 y2 y3 y4 y5 y6 y7 y8 y9, LeO (spec_WatchOf.j1 k y0 y1 y2 y3 y4 y5 y6 y7 y8 y9) (spec_WatchOf.j1 (k + 1) y0 y1 y2 y3 y4 y5 y6 y7 y8 y9))
  | 0 => ⟨fun _ _ _ _ _ _ _ _ r h => by simp [spec_WatchOf.l0] at h, fun _ _ _ _ _ _ _ _ _ _ r h => by simp [spec_WatchOf.j1] at h⟩
  | k + 1 => by
    obtain ⟨ih0, ih1⟩ := spec_WatchOf.mono_l k
    refine ⟨?_, ?_⟩
    · intro y0 y1 y2 y3 y4 y5 y6 y7
      unfold spec_WatchOf.l0
      repeat' first
      | (with_reducible exact ih0 _ _ _ _ _ _ _ _)
      | (with_reducible exact ih1 _ _ _ _ _ _ _ _ _ _)
      | (with_reducible exact spec_l22Trace.mono _ _)
      | (with_reducible exact LeO.refl _)
      | (with_reducible exact LeO.none _)
      | (with_reducible refine LeO.ite ?_ ?_)
      | (with_reducible refine LeO.bind ?_ (fun _ => ?_))
      | exact ih0 _ _ _ _ _ _ _ _
      | exact ih1 _ _ _ _ _ _ _ _ _ _
      | exact spec_l22Trace.mono _ _
      | exact LeO.none _
      | refine LeO.ite ?_ ?_
      | refine LeO.bind ?_ (fun _ => ?_)
    · intro y0 y1 y2 y3 y4 y5 y6 y7 y8 y9
      unfold spec_WatchOf.j1
      repeat' first
      | (with_reducible exact ih0 _ _ _ _ _ _ _ _)
      | (with_reducible exact ih1 _ _ _ _ _ _ _ _ _ _)
      | (with_reducible exact spec_l22Trace.mono _ _)
      | (with_reducible exact LeO.refl _)
      | (with_reducible exact LeO.none _)
      | (with_reducible refine LeO.ite ?_ ?_)
      | (with_reducible refine LeO.bind ?_ (fun _ => ?_))
      | exact ih0 _ _ _ _ _ _ _ _
      | exact ih1 _ _ _ _ _ _ _ _ _ _
      | exact spec_l22Trace.mono _ _
      | exact LeO.none _
      | refine LeO.ite ?_ ?_
      | refine LeO.bind ?_ (fun _ => ?_)
theorem spec_WatchOf.mono : ∀ a0 k, LeO (spec_WatchOf.f k a0) (spec_WatchOf.f (k + 1) a0) := by
  intro a0 k
  obtain ⟨ih0, ih1⟩ := spec_WatchOf.mono_l k
  unfold spec_WatchOf.f
  repeat' first
      | (with_reducible exact ih0 _ _ _ _ _ _ _ _)
      | (with_reducible exact ih1 _ _ _ _ _ _ _ _ _ _)
      | (with_reducible exact spec_l22Trace.mono _ _)
      | (with_reducible exact LeO.refl _)
      | (with_reducible exact LeO.none _)
      | (with_reducible refine LeO.ite ?_ ?_)
      | (with_reducible refine LeO.bind ?_ (fun _ => ?_))
      | exact ih0 _ _ _ _ _ _ _ _
      | exact ih1 _ _ _ _ _ _ _ _ _ _
      | exact spec_l22Trace.mono _ _
      | exact LeO.none _
      | refine LeO.ite ?_ ?_
      | refine LeO.bind ?_ (fun _ => ?_)
set_option maxHeartbeats 8000000 in
set_option maxRecDepth 100000 in
theorem spec_WatchOf.calls (k : Nat) (A0 : Option Addr) (c0 : Nat) (l0 : List Nat) (r1 : Int) (r2 : Int) (r3 : Nat) (r4 : Nat) (r5 : Nat) (r6 : Int) (w : World) (hr0 : Kd.C (Opens.flt .f64) w A0 l0.length l0) (hc0 : l0.length ≤ c0) (h : spec_WatchOf.f k l0 = some (r1, r2, r3, r4, r5, r6)) :
    Calls Try.prog 34 #[.slice A0 l0.length c0] w fun e w' => e = .returned (.tuple #[.agg #[.int .i64 r1, .int .i64 r2, .float .f64 r3, .float .f64 r4, .float .f64 r5], .int .i64 r6]) ∧ Below w.heap.size w w' := by
  have hu63 := Try.underlying63
  have HR0 := Aside0.mk hr0
  have HC0 := Aside0.mk hc0
  clear hr0 hc0
  have HB := Aside0.mk (Below.refl w.heap.size w)
  have H : (if (l0.length : Int) > 4096 then (some (0, 0, 0, 0, 0, 2)) else ((spec_l22Trace.f k l0).bind fun t116 => (if t116 = true then (spec_WatchOf.l0 k l0 0 0 0 0 0 0 0) else (some (0, 0, 0, 0, 0, 1))))) = some (r1, r2, r3, r4, r5, r6) := h
  clear h
  by_cases c2 : (l0.length : Int) > 4096
  · rw [if_pos c2] at H
    have c2b0 : decide (4096 < (l0.length : Int)) = true := decide_eq_true c2
    have c2b1 : decide (4096 < l0.length) = true := decide_eq_true (by omega)
    clear c2
    simp only [Option.some.injEq, Prod.mk.injEq] at H
    obtain ⟨rfl, rfl, rfl, rfl, rfl, rfl⟩ := H
    go_enter Try.func34, Try.ntmps34
    go_wp2_with (first | ((with_reducible refine gate_dst (N := 2) rfl ?_); refine box_event ?hg (N := 2) ?hd (cs := #[.int .i64 0, .int .i64 0, .float .f64 0, .float .f64 0, .float .f64 0]) (t := 63) ?hr ?_; (case hd => rfl); (case hg => rfl); (case hr => first | (go_simp; done) | (go_simp; rfl)); intro gb115 hg w3 hbox hb; have n0_ := Aside0.mk (below_step (by repeat (first | (with_reducible first | exact HB.out | apply below_alloc | apply pw_below_drewN | apply below_drew1) | exact HB.out)) hb); have n1_ := Aside0.mk (hbox); have n2_ := Aside0.mk ((by rw [hg]; exact (below_size (by repeat (first | (with_reducible first | exact HB.out | apply below_alloc | apply pw_below_drewN | apply below_drew1) | exact HB.out))) : w.heap.size ≤ gb115)); have n3_ := Aside0.mk ((by rw [hg]; exact (below_size (by repeat (first | (with_reducible first | exact HB.out | apply below_alloc | apply pw_below_drewN | apply below_drew1) | exact HB.out))) : w.heap.size ≤ gb115)); clear HB; have HB := n0_; have BK115 := n1_; have GW115 := n2_; have GE115 := n3_; clear n0_ n1_ n2_ n3_; clear hb hbox hg; have hcz4_0 : w3.cell? ⟨gb115, 0, none⟩ = some (.int .i64 0) := (blk_cell BK115.out 0).trans rfl; have hcz4_1 : w3.cell? ⟨gb115, 1, none⟩ = some (.int .i64 0) := (blk_cell BK115.out 1).trans rfl; have hcz4_2 : w3.cell? ⟨gb115, 2, none⟩ = some (.float .f64 0) := (blk_cell BK115.out 2).trans rfl; have hcz4_3 : w3.cell? ⟨gb115, 3, none⟩ = some (.float .f64 0) := (blk_cell BK115.out 3).trans rfl; have hcz4_4 : w3.cell? ⟨gb115, 4, none⟩ = some (.float .f64 0) := (blk_cell BK115.out 4).trans rfl; have hfz4_0 := blk_frozen BK115.out 0; have hfz4_1 := blk_frozen BK115.out 1; have hfz4_2 := blk_frozen BK115.out 2; have hfz4_3 := blk_frozen BK115.out 3; have hfz4_4 := blk_frozen BK115.out 4))
    refine bodyPost_ret (results_ct rfl _ _ gb115 63 #[.int .i64 0, .int .i64 0, .float .f64 0, .float .f64 0, .float .f64 0] (0, 0) _ rfl (by (with_reducible repeat (first | refine blk_drewN ?_ _ | refine blk_drew ?_ | refine blk_alloc ?_ _)); refine blk_put (cs := #[.int .i64 0, .int .i64 0, .float .f64 0, .float .f64 0, .float .f64 0]) ?_ 4 _ rfl; (with_reducible repeat (first | refine blk_drewN ?_ _ | refine blk_drew ?_ | refine blk_alloc ?_ _)); refine blk_put (cs := #[.int .i64 0, .int .i64 0, .float .f64 0, .float .f64 0, .float .f64 0]) ?_ 3 _ rfl; (with_reducible repeat (first | refine blk_drewN ?_ _ | refine blk_drew ?_ | refine blk_alloc ?_ _)); refine blk_put (cs := #[.int .i64 0, .int .i64 0, .float .f64 0, .float .f64 0, .float .f64 0]) ?_ 2 _ rfl; (with_reducible repeat (first | refine blk_drewN ?_ _ | refine blk_drew ?_ | refine blk_alloc ?_ _)); refine blk_put (cs := #[.int .i64 0, .int .i64 0, .float .f64 0, .float .f64 0, .float .f64 0]) ?_ 1 _ rfl; (with_reducible repeat (first | refine blk_drewN ?_ _ | refine blk_drew ?_ | refine blk_alloc ?_ _)); refine blk_put (cs := #[.int .i64 0, .int .i64 0, .float .f64 0, .float .f64 0, .float .f64 0]) ?_ 0 _ rfl; (with_reducible repeat (first | refine blk_drewN ?_ _ | refine blk_drew ?_ | refine blk_alloc ?_ _)); exact BK115.out) Try.underlying63 rfl (by kernel_rfl)) rfl ?_
    exact ⟨by first | rfl | (simp [errW_none, errW_some] <;> rfl) | (simp [*, errW_none, errW_some] <;> rfl), by repeat (first | (with_reducible first | exact HB.out | apply below_alloc | apply pw_below_drewN | apply below_drew1 | refine below_set ?_ GE115.out) | exact HB.out)⟩
  · rw [if_neg c2] at H
    have c2b0 : decide (4096 < (l0.length : Int)) = false := decide_eq_false c2
    have c2b1 : decide (4096 < l0.length) = false := decide_eq_false (by omega)
    clear c2
    replace H := Option.bind_eq_some_iff.mp H
    obtain ⟨t116, A50, H⟩ := H
    replace H : (if t116 = true then (spec_WatchOf.l0 k l0 0 0 0 0 0 0 0) else (some (0, 0, 0, 0, 0, 1))) = some (r1, r2, r3, r4, r5, r6) := H
    have A5 := Aside0.mk A50
    clear A50
    by_cases c6 : t116 = true
    · subst c6
      have H1 : (spec_WatchOf.l0 k l0 0 0 0 0 0 0 0) = some (r1, r2, r3, r4, r5, r6) := by rw [if_pos rfl] at H; exact H
      clear H
      have H := H1
      clear H1
      have H' := Aside0.mk H
      clear H
      go_enter Try.func34, Try.ntmps34
      go_wp2_with (first | ((with_reducible refine gate_dst (N := 2) rfl ?_); refine box_event ?hg (N := 2) ?hd (cs := #[.int .i64 0, .int .i64 0, .float .f64 0, .float .f64 0, .float .f64 0]) (t := 63) ?hr ?_; (case hd => rfl); (case hg => rfl); (case hr => first | (go_simp; done) | (go_simp; rfl)); intro gb115 hg w7 hbox hb; have n0_ := Aside0.mk (below_step (by repeat (first | (with_reducible first | exact HB.out | apply below_alloc | apply pw_below_drewN | apply below_drew1) | exact HB.out)) hb); have n1_ := Aside0.mk (hbox); have n2_ := Aside0.mk ((by rw [hg]; exact (below_size (by repeat (first | (with_reducible first | exact HB.out | apply below_alloc | apply pw_below_drewN | apply below_drew1) | exact HB.out))) : w.heap.size ≤ gb115)); have n3_ := Aside0.mk ((by rw [hg]; exact (below_size (by repeat (first | (with_reducible first | exact HB.out | apply below_alloc | apply pw_below_drewN | apply below_drew1) | exact HB.out))) : w.heap.size ≤ gb115)); clear HB; have HB := n0_; have BK115 := n1_; have GW115 := n2_; have GE115 := n3_; clear n0_ n1_ n2_ n3_; clear hb hbox hg) | ((with_reducible refine gate_callee (f := 64) rfl ?_); refine goesL_ (some 13) rfl rfl Try.func64 (by kernel_rfl) rfl #[.slice A0 l0.length c0] rfl (by (try simp only [List.map_toArray, List.map_cons, List.map_nil]); first | done | rfl | (simp only [List.length_drop, List.length_take]; rfl)) ?_; (with_reducible refine (spec_l22Trace.calls k _ _ l0 true _ ?side1 ?side2 A5.out).mono ?_); (case side1 => repeat (first | exact (Kd.C_below HR0.out HB.out) | (with_reducible refine Kd.C_alloc ?_ _) | (with_reducible refine Kd.C_drewN ?_ _) | (with_reducible refine Kd.C_drew ?_))); (case side2 => exact HC0.out); rintro e w' ⟨rfl, ⟨nd, rfl⟩⟩; refine ⟨_, rfl, ?_⟩; (try (rw [drewN_self w7]; generalize hq_ : World.drewN w7 _ = w7; have n0_ : Aside0 (w7.heap[gb115]? = some (.cells #[.int .i64 0, .int .i64 0, .float .f64 0, .float .f64 0, .float .f64 0] 63 (0, 0))) := ⟨by rw [← hq_]; exact (by (with_reducible repeat (first | refine blk_drewN ?_ _ | refine blk_drew ?_ | refine blk_alloc ?_ _)); exact BK115.out)⟩; have n1_ : Aside0 (Below w.heap.size w w7) := ⟨by rw [← hq_]; exact (by repeat (first | (with_reducible first | exact HB.out | apply below_alloc | apply pw_below_drewN | apply below_drew1 | refine below_set ?_ GE115.out) | exact HB.out))⟩; clear BK115 HB hq_; have BK115 := n0_; have HB := n1_; clear n0_ n1_))) | ((with_reducible refine gate_dst (N := 4) rfl ?_); refine box_event ?hg (N := 4) ?hd (cs := #[.int .i64 0, .int .i64 0, .float .f64 0, .float .f64 0, .float .f64 0]) (t := 63) ?hr ?_; (case hd => rfl); (case hg => rfl); (case hr => first | (go_simp; done) | (go_simp; rfl)); intro gb117 hg w8 hbox hb; have n0_ := Aside0.mk (blk_below (g := gb115) (o := .cells #[.int .i64 0, .int .i64 0, .float .f64 0, .float .f64 0, .float .f64 0] 63 (0, 0)) (by (with_reducible repeat (first | refine blk_drewN ?_ _ | refine blk_drew ?_ | refine blk_alloc ?_ _)); exact BK115.out) hb); have n1_ := Aside0.mk (below_step (by repeat (first | (with_reducible first | exact HB.out | apply below_alloc | apply pw_below_drewN | apply below_drew1 | refine below_set ?_ GE115.out) | exact HB.out)) hb); have n2_ := Aside0.mk (hbox); have n3_ := Aside0.mk ((by rw [hg]; exact (below_size (by repeat (first | (with_reducible first | exact HB.out | apply below_alloc | apply pw_below_drewN | apply below_drew1 | refine below_set ?_ GE115.out) | exact HB.out))) : w.heap.size ≤ gb117)); have n4_ := Aside0.mk ((by rw [hg]; exact (below_size (by repeat (first | (with_reducible first | exact HB.out | apply below_alloc | apply pw_below_drewN | apply below_drew1 | refine below_set ?_ GE115.out) | exact HB.out))) : w.heap.size ≤ gb117)); have n5_ := Aside0.mk ((by rw [hg]; exact Nat.ne_of_lt (blk_lt (g := gb115) (o := .cells #[.int .i64 0, .int .i64 0, .float .f64 0, .float .f64 0, .float .f64 0] 63 (0, 0)) (by (with_reducible repeat (first | refine blk_drewN ?_ _ | refine blk_drew ?_ | refine blk_alloc ?_ _)); exact BK115.out)) : gb115 ≠ gb117)); have n6_ := Aside0.mk ((by rw [hg]; exact Nat.ne_of_gt (blk_lt (g := gb115) (o := .cells #[.int .i64 0, .int .i64 0, .float .f64 0, .float .f64 0, .float .f64 0] 63 (0, 0)) (by (with_reducible repeat (first | refine blk_drewN ?_ _ | refine blk_drew ?_ | refine blk_alloc ?_ _)); exact BK115.out)) : gb117 ≠ gb115)); clear BK115; clear HB; have BK115 := n0_; have HB := n1_; have BK117 := n2_; have GW117 := n3_; have GE117 := n4_; have NB115_117 := n5_; have NB117_115 := n6_; clear n0_ n1_ n2_ n3_ n4_ n5_ n6_; clear hb hbox hg; have hnb9 := NB117_115.out; have hnc9 := NB115_117.out; have hcz10_0 : w8.cell? ⟨gb117, 0, none⟩ = some (.int .i64 0) := (blk_cell BK117.out 0).trans rfl; have hcz10_1 : w8.cell? ⟨gb117, 1, none⟩ = some (.int .i64 0) := (blk_cell BK117.out 1).trans rfl; have hcz10_2 : w8.cell? ⟨gb117, 2, none⟩ = some (.float .f64 0) := (blk_cell BK117.out 2).trans rfl; have hcz10_3 : w8.cell? ⟨gb117, 3, none⟩ = some (.float .f64 0) := (blk_cell BK117.out 3).trans rfl; have hcz10_4 : w8.cell? ⟨gb117, 4, none⟩ = some (.float .f64 0) := (blk_cell BK117.out 4).trans rfl; have hfz10_0 := blk_frozen BK117.out 0; have hfz10_1 := blk_frozen BK117.out 1; have hfz10_2 := blk_frozen BK117.out 2; have hfz10_3 := blk_frozen BK117.out 3; have hfz10_4 := blk_frozen BK117.out 4))
      go_loopg [5, 6] k (fun kq v5 v6 w' => ∃ (x5_1 : Nat) (x6_1 : Int) (x118000_1 : Int) (x118001_1 : Int) (x118003_1 : Nat) (x118004_1 : Nat), v5 = .float .f64 x5_1 ∧ v6 = .int .i64 x6_1 ∧ Aside0 (spec_WatchOf.l0 kq l0 x5_1 x6_1 x118000_1 x118001_1 0 x118003_1 x118004_1 = some (r1, r2, r3, r4, r5, r6)) ∧ Aside0 (kq ≤ k) ∧ Aside0 (w'.heap[gb115]? = some (.cells #[.int .i64 0, .int .i64 0, .float .f64 0, .float .f64 0, .float .f64 0] 63 (0, 0))) ∧ Aside0 (w'.heap[gb117]? = some (.cells #[.int .i64 x118000_1, .int .i64 x118001_1, .float .f64 0, .float .f64 x118003_1, .float .f64 x118004_1] 63 (0, 0))) ∧ Aside0 (Below w.heap.size w w'))
      case atStart => exact ⟨(0), (0), (0), (0), (0), (0), (by first | rfl | (simp; done) | (simp [*]; done)), (by first | rfl | (simp; done) | (simp [*]; done)), H', ⟨Nat.le_refl _⟩, ⟨by (with_reducible repeat (first | refine blk_drewN ?_ _ | refine blk_drew ?_ | refine blk_alloc ?_ _)); refine blk_far ?_ NB115_117.out _; (with_reducible repeat (first | refine blk_drewN ?_ _ | refine blk_drew ?_ | refine blk_alloc ?_ _)); refine blk_far ?_ NB115_117.out _; (with_reducible repeat (first | refine blk_drewN ?_ _ | refine blk_drew ?_ | refine blk_alloc ?_ _)); refine blk_far ?_ NB115_117.out _; (with_reducible repeat (first | refine blk_drewN ?_ _ | refine blk_drew ?_ | refine blk_alloc ?_ _)); refine blk_far ?_ NB115_117.out _; (with_reducible repeat (first | refine blk_drewN ?_ _ | refine blk_drew ?_ | refine blk_alloc ?_ _)); refine blk_far ?_ NB115_117.out _; (with_reducible repeat (first | refine blk_drewN ?_ _ | refine blk_drew ?_ | refine blk_alloc ?_ _)); exact BK115.out⟩, ⟨by (with_reducible repeat (first | refine blk_drewN ?_ _ | refine blk_drew ?_ | refine blk_alloc ?_ _)); refine blk_put (cs := #[.int .i64 0, .int .i64 0, .float .f64 0, .float .f64 0, .float .f64 0]) ?_ 4 _ rfl; (with_reducible repeat (first | refine blk_drewN ?_ _ | refine blk_drew ?_ | refine blk_alloc ?_ _)); refine blk_put (cs := #[.int .i64 0, .int .i64 0, .float .f64 0, .float .f64 0, .float .f64 0]) ?_ 3 _ rfl; (with_reducible repeat (first | refine blk_drewN ?_ _ | refine blk_drew ?_ | refine blk_alloc ?_ _)); refine blk_put (cs := #[.int .i64 0, .int .i64 0, .float .f64 0, .float .f64 0, .float .f64 0]) ?_ 2 _ rfl; (with_reducible repeat (first | refine blk_drewN ?_ _ | refine blk_drew ?_ | refine blk_alloc ?_ _)); refine blk_put (cs := #[.int .i64 0, .int .i64 0, .float .f64 0, .float .f64 0, .float .f64 0]) ?_ 1 _ rfl; (with_reducible repeat (first | refine blk_drewN ?_ _ | refine blk_drew ?_ | refine blk_alloc ?_ _)); refine blk_put (cs := #[.int .i64 0, .int .i64 0, .float .f64 0, .float .f64 0, .float .f64 0]) ?_ 0 _ rfl; (with_reducible repeat (first | refine blk_drewN ?_ _ | refine blk_drew ?_ | refine blk_alloc ?_ _)); exact BK117.out⟩, ⟨by repeat (first | (with_reducible first | exact HB.out | apply below_alloc | apply pw_below_drewN | apply below_drew1 | refine below_set ?_ GE115.out | refine below_set ?_ GE117.out) | exact HB.out)⟩⟩
      case round =>
        clear H'
        try clear c2
        try clear c2b0
        try clear c2b1
        try clear p2
        try clear c3
        try clear c6
        try clear c9
        try clear hcz10_0
        try clear hcz10_1
        try clear hcz10_2
        try clear hcz10_3
        try clear hcz10_4
        try clear hcz4_0
        try clear hcz4_1
        try clear hcz4_2
        try clear hcz4_3
        try clear hcz4_4
        try clear hfz10_0
        try clear hfz10_1
        try clear hfz10_2
        try clear hfz10_3
        try clear hfz10_4
        try clear hfz4_0
        try clear hfz4_1
        try clear hfz4_2
        try clear hfz4_3
        try clear hfz4_4
        obtain ⟨x5_1, x6_1, x118000_1, x118001_1, x118003_1, x118004_1, rfl, rfl, HA, HK1, BK115, BK117, HB⟩ := hrel
        cases gk with
        | zero => exact absurd HA.out (by simp [spec_WatchOf.l0])
        | succ k1 =>
          have H := HA.out
          clear HA
          simp only [spec_WatchOf.l0] at H
          by_cases c11 : x6_1 < (l0.length : Int)
          · rw [if_pos c11] at H
            have c11b0 : decide (x6_1 < (l0.length : Int)) = true := decide_eq_true c11
            clear c11
            by_cases c12 : 0 ≤ x6_1
            · rw [if_pos c12] at H
              have c12b0 : decide (0 ≤ x6_1) = true := decide_eq_true c12
              clear c12
              replace H := Option.bind_eq_some_iff.mp H
              obtain ⟨t121, A130, H⟩ := H
              replace H : (if t121 = true then (if x118000_1 = 0 then (spec_WatchOf.j1 k1 l0 x5_1 x6_1 (rdOf (0 : Nat) l0 x6_1) true x118000_1 x118001_1 0 x118003_1 x118004_1) else (spec_WatchOf.j1 k1 l0 x5_1 x6_1 (rdOf (0 : Nat) l0 x6_1) (fLt .f64 (rdOf (0 : Nat) l0 x6_1) x118003_1) x118000_1 x118001_1 0 x118003_1 x118004_1)) else (spec_WatchOf.l0 k1 l0 x5_1 (wrap64 (x6_1 + 1)) x118000_1 (wrap64 (x118001_1 + 1)) 0 x118003_1 x118004_1)) = some (r1, r2, r3, r4, r5, r6) := H
              have A13 := Aside0.mk A130
              clear A130
              by_cases c14 : t121 = true
              · subst c14
                have H1 : (if x118000_1 = 0 then (spec_WatchOf.j1 k1 l0 x5_1 x6_1 (rdOf (0 : Nat) l0 x6_1) true x118000_1 x118001_1 0 x118003_1 x118004_1) else (spec_WatchOf.j1 k1 l0 x5_1 x6_1 (rdOf (0 : Nat) l0 x6_1) (fLt .f64 (rdOf (0 : Nat) l0 x6_1) x118003_1) x118000_1 x118001_1 0 x118003_1 x118004_1)) = some (r1, r2, r3, r4, r5, r6) := by rw [if_pos rfl] at H; exact H
                clear H
                have H := H1
                clear H1
                have HC15 := Aside0.mk H
                clear H
                have p120 : 0 ≤ (x6_1 : Int) := of_decide_eq_true (by first | (with_reducible assumption) | assumption)
                have q120 : x6_1 < (l0.length : Int) := of_decide_eq_true (by first | (with_reducible assumption) | assumption)
                obtain ⟨ad120, e120, hx120_0⟩ := Opens.at_flt HR0.out x6_1 p120 q120
                cases e120
                replace hx120_0 := (HB.out.cell (World.block_lt_of_cell? w _ hx120_0)).trans hx120_0
                replace p120 := eq_true p120
                replace q120 := eq_true q120
                go_upto_region 13 with (first | ((with_reducible refine gate_callee (f := 66) rfl ?_); refine goesL_ (some 28) rfl rfl Try.func66 (by kernel_rfl) rfl #[.float .f64 (rdOf (0 : Nat) l0 x6_1)] rfl (by (try simp only [List.map_toArray, List.map_cons, List.map_nil]); first | done | rfl | (simp only [List.length_drop, List.length_take]; rfl)) ?_; (with_reducible refine (spec_l22There.calls (rdOf (0 : Nat) l0 x6_1) true _ A13.out).mono ?_); rintro e w' ⟨rfl, ⟨nd, rfl⟩⟩; refine ⟨_, rfl, ?_⟩))
                (try simp only [Act.put, List.setIfInBounds_toArray, List.set_cons_zero, List.set_cons_succ])
                go_cut [42] (fun v42 wc => ∃ (kq : Nat) (x42_14 : Bool), v42 = .bool x42_14 ∧ Aside0 (spec_WatchOf.j1 kq l0 x5_1 x6_1 (rdOf (0 : Nat) l0 x6_1) x42_14 x118000_1 x118001_1 0 x118003_1 x118004_1 = some (r1, r2, r3, r4, r5, r6)) ∧ Aside0 (kq ≤ k1) ∧ Aside0 (wc.heap[gb115]? = some (.cells #[.int .i64 0, .int .i64 0, .float .f64 0, .float .f64 0, .float .f64 0] 63 (0, 0))) ∧ Aside0 (wc.heap[gb117]? = some (.cells #[.int .i64 x118000_1, .int .i64 x118001_1, .float .f64 0, .float .f64 x118003_1, .float .f64 x118004_1] 63 (0, 0))) ∧ Aside0 (Below w.heap.size w wc))
                case first =>
                  have H := HC15.out
                  clear HC15
                  by_cases c16 : x118000_1 = 0
                  · rw [if_pos c16] at H
                    have c16b0 : (x118000_1 == 0) = true := beq_iff_eq.mpr c16
                    have c16b1 : (x118000_1 != 0) = false := bne_eq_false_iff_eq.mpr c16
                    clear c16
                    (first | rw [c16b0] | (simp only [i64_w, i32_w]; rw [c16b0]) | skip)
                    have H' := Aside0.mk H
                    clear H
                    have hnb17 := NB117_115.out
                    have hnc17 := NB115_117.out
                    have hcz18_0 : wr.cell? ⟨gb117, 0, none⟩ = some (.int .i64 x118000_1) := (blk_cell BK117.out 0).trans rfl
                    have hcz18_1 : wr.cell? ⟨gb117, 1, none⟩ = some (.int .i64 x118001_1) := (blk_cell BK117.out 1).trans rfl
                    have hcz18_2 : wr.cell? ⟨gb117, 2, none⟩ = some (.float .f64 0) := (blk_cell BK117.out 2).trans rfl
                    have hcz18_3 : wr.cell? ⟨gb117, 3, none⟩ = some (.float .f64 x118003_1) := (blk_cell BK117.out 3).trans rfl
                    have hcz18_4 : wr.cell? ⟨gb117, 4, none⟩ = some (.float .f64 x118004_1) := (blk_cell BK117.out 4).trans rfl
                    have hfz18_0 := blk_frozen BK117.out 0
                    have hfz18_1 := blk_frozen BK117.out 1
                    have hfz18_2 := blk_frozen BK117.out 2
                    have hfz18_3 := blk_frozen BK117.out 3
                    have hfz18_4 := blk_frozen BK117.out 4
                    go_wp2
                    go_meet
                    case rel => exact ⟨_, (true), (by first | rfl | (simp; done) | (simp [*]; done)), H', ⟨by have := HK1.out; first | omega | exact Nat.le_refl _⟩, ⟨by (with_reducible repeat (first | refine blk_drewN ?_ _ | refine blk_drew ?_ | refine blk_alloc ?_ _)); exact BK115.out⟩, ⟨by (with_reducible repeat (first | refine blk_drewN ?_ _ | refine blk_drew ?_ | refine blk_alloc ?_ _)); exact BK117.out⟩, ⟨by repeat (first | (with_reducible first | exact HB.out | apply below_alloc | apply pw_below_drewN | apply below_drew1 | refine below_set ?_ GE115.out | refine below_set ?_ GE117.out) | exact HB.out)⟩⟩
                  · rw [if_neg c16] at H
                    have c16b0 : (x118000_1 == 0) = false := beq_eq_false_iff_ne.mpr c16
                    have c16b1 : (x118000_1 != 0) = true := bne_iff_ne.mpr c16
                    (first | rw [c16b0] | (simp only [i64_w, i32_w]; rw [c16b0]) | skip)
                    have H' := Aside0.mk H
                    clear H
                    have hnb19 := NB117_115.out
                    have hnc19 := NB115_117.out
                    have hcz20_0 : wr.cell? ⟨gb117, 0, none⟩ = some (.int .i64 x118000_1) := (blk_cell BK117.out 0).trans rfl
                    have hcz20_1 : wr.cell? ⟨gb117, 1, none⟩ = some (.int .i64 x118001_1) := (blk_cell BK117.out 1).trans rfl
                    have hcz20_2 : wr.cell? ⟨gb117, 2, none⟩ = some (.float .f64 0) := (blk_cell BK117.out 2).trans rfl
                    have hcz20_3 : wr.cell? ⟨gb117, 3, none⟩ = some (.float .f64 x118003_1) := (blk_cell BK117.out 3).trans rfl
                    have hcz20_4 : wr.cell? ⟨gb117, 4, none⟩ = some (.float .f64 x118004_1) := (blk_cell BK117.out 4).trans rfl
                    have hfz20_0 := blk_frozen BK117.out 0
                    have hfz20_1 := blk_frozen BK117.out 1
                    have hfz20_2 := blk_frozen BK117.out 2
                    have hfz20_3 := blk_frozen BK117.out 3
                    have hfz20_4 := blk_frozen BK117.out 4
                    go_wp2
                    go_meet
                    case rel => exact ⟨_, ((fLt .f64 (rdOf (0 : Nat) l0 x6_1) x118003_1)), (by first | rfl | (simp; done) | (simp [*]; done)), H', ⟨by have := HK1.out; first | omega | exact Nat.le_refl _⟩, ⟨by (with_reducible repeat (first | refine blk_drewN ?_ _ | refine blk_drew ?_ | refine blk_alloc ?_ _)); exact BK115.out⟩, ⟨by (with_reducible repeat (first | refine blk_drewN ?_ _ | refine blk_drew ?_ | refine blk_alloc ?_ _)); exact BK117.out⟩, ⟨by repeat (first | (with_reducible first | exact HB.out | apply below_alloc | apply pw_below_drewN | apply below_drew1 | refine below_set ?_ GE115.out | refine below_set ?_ GE117.out) | exact HB.out)⟩⟩
                case rest =>
                  clear HC15
                  try clear c1
                  try clear p1
                  try clear q1
                  try clear hx1
                  try clear c2
                  try clear c2b0
                  try clear c2b1
                  try clear p2
                  try clear c3
                  try clear c6
                  try clear p6
                  try clear c9
                  try clear c11
                  try clear c11b0
                  try clear c12
                  try clear c12b0
                  try clear p12
                  try clear q12
                  try clear hx12
                  try clear c14
                  try clear c16
                  try clear c16b0
                  try clear c16b1
                  try clear c17
                  try clear c19
                  try clear hcz10_0
                  try clear hcz10_1
                  try clear hcz10_2
                  try clear hcz10_3
                  try clear hcz10_4
                  try clear hcz18_0
                  try clear hcz18_1
                  try clear hcz18_2
                  try clear hcz18_3
                  try clear hcz18_4
                  try clear hcz20_0
                  try clear hcz20_1
                  try clear hcz20_2
                  try clear hcz20_3
                  try clear hcz20_4
                  try clear hcz4_0
                  try clear hcz4_1
                  try clear hcz4_2
                  try clear hcz4_3
                  try clear hcz4_4
                  try clear hfz10_0
                  try clear hfz10_1
                  try clear hfz10_2
                  try clear hfz10_3
                  try clear hfz10_4
                  try clear hfz18_0
                  try clear hfz18_1
                  try clear hfz18_2
                  try clear hfz18_3
                  try clear hfz18_4
                  try clear hfz20_0
                  try clear hfz20_1
                  try clear hfz20_2
                  try clear hfz20_3
                  try clear hfz20_4
                  try clear hfz4_0
                  try clear hfz4_1
                  try clear hfz4_2
                  try clear hfz4_3
                  try clear hfz4_4
                  try clear hx120_0
                  try clear p120
                  try clear p2
                  try clear q120
                  obtain ⟨kq, x42_14, rfl, HA, HJ14, BK115, BK117, HB⟩ := hcut
                  cases kq with
                  | zero => exact absurd HA.out (by simp [spec_WatchOf.j1])
                  | succ kj14 =>
                    have H := HA.out
                    clear HA
                    simp only [spec_WatchOf.j1] at H
                    by_cases c21 : x42_14 = true
                    · subst c21
                      have H1 : (if x118000_1 = 0 then ((floatBits .add .f64 x5_1 (rdOf (0 : Nat) l0 x6_1)).bind fun t122 => (spec_WatchOf.l0 kj14 l0 t122 (wrap64 (x6_1 + 1)) (wrap64 (x118000_1 + 1)) x118001_1 0 (rdOf (0 : Nat) l0 x6_1) (rdOf (0 : Nat) l0 x6_1))) else (if (fGt .f64 (rdOf (0 : Nat) l0 x6_1) x118004_1) = true then ((floatBits .add .f64 x5_1 (rdOf (0 : Nat) l0 x6_1)).bind fun t123 => (spec_WatchOf.l0 kj14 l0 t123 (wrap64 (x6_1 + 1)) (wrap64 (x118000_1 + 1)) x118001_1 0 (rdOf (0 : Nat) l0 x6_1) (rdOf (0 : Nat) l0 x6_1))) else ((floatBits .add .f64 x5_1 (rdOf (0 : Nat) l0 x6_1)).bind fun t124 => (spec_WatchOf.l0 kj14 l0 t124 (wrap64 (x6_1 + 1)) (wrap64 (x118000_1 + 1)) x118001_1 0 (rdOf (0 : Nat) l0 x6_1) x118004_1)))) = some (r1, r2, r3, r4, r5, r6) := by rw [if_pos rfl] at H; exact H
                      clear H
                      have H := H1
                      clear H1
                      by_cases c22 : x118000_1 = 0
                      · rw [if_pos c22] at H
                        have c22b0 : (x118000_1 == 0) = true := beq_iff_eq.mpr c22
                        have c22b1 : (x118000_1 != 0) = false := bne_eq_false_iff_eq.mpr c22
                        clear c22
                        replace H := Option.bind_eq_some_iff.mp H
                        obtain ⟨t122, HF_, H⟩ := H
                        replace H : (spec_WatchOf.l0 kj14 l0 t122 (wrap64 (x6_1 + 1)) (wrap64 (x118000_1 + 1)) x118001_1 0 (rdOf (0 : Nat) l0 x6_1) (rdOf (0 : Nat) l0 x6_1)) = some (r1, r2, r3, r4, r5, r6) := H
                        have hfz23_0 : ∀ W_ : World, (binOp .add 41 (.float .f64 x5_1) (.float .f64 (rdOf (0 : Nat) l0 x6_1))).run Try.prog W_ = .ok (.float .f64 t122) W_ := fun W_ => run_float_arith W_ .add 41 .f64 x5_1 (rdOf (0 : Nat) l0 x6_1) t122 HF_
                        clear HF_
                        have H' := Aside0.mk H
                        clear H
                        have hnb24 := NB117_115.out
                        have hnc24 := NB115_117.out
                        have hcz25_0 : wc.cell? ⟨gb117, 0, none⟩ = some (.int .i64 x118000_1) := (blk_cell BK117.out 0).trans rfl
                        have hcz25_1 : wc.cell? ⟨gb117, 1, none⟩ = some (.int .i64 x118001_1) := (blk_cell BK117.out 1).trans rfl
                        have hcz25_2 : wc.cell? ⟨gb117, 2, none⟩ = some (.float .f64 0) := (blk_cell BK117.out 2).trans rfl
                        have hcz25_3 : wc.cell? ⟨gb117, 3, none⟩ = some (.float .f64 x118003_1) := (blk_cell BK117.out 3).trans rfl
                        have hcz25_4 : wc.cell? ⟨gb117, 4, none⟩ = some (.float .f64 x118004_1) := (blk_cell BK117.out 4).trans rfl
                        have hfz25_0 := blk_frozen BK117.out 0
                        have hfz25_1 := blk_frozen BK117.out 1
                        have hfz25_2 := blk_frozen BK117.out 2
                        have hfz25_3 := blk_frozen BK117.out 3
                        have hfz25_4 := blk_frozen BK117.out 4
                        go_wp2
                        go_roundg kj14
                        case measure => have := HK1.out; have := HJ14.out; omega
                        case rel => exact ⟨(t122), (wrap64 (x6_1 + 1)), (wrap64 (x118000_1 + 1)), (x118001_1), ((rdOf (0 : Nat) l0 x6_1)), ((rdOf (0 : Nat) l0 x6_1)), (by first | rfl | (simp; done) | (simp [*]; done)), (by first | rfl | (simp; done) | (simp [*]; done)), H', ⟨by have := HK1.out; have := HJ14.out; omega⟩, ⟨by (with_reducible repeat (first | refine blk_drewN ?_ _ | refine blk_drew ?_ | refine blk_alloc ?_ _)); refine blk_far ?_ NB115_117.out _; (with_reducible repeat (first | refine blk_drewN ?_ _ | refine blk_drew ?_ | refine blk_alloc ?_ _)); refine blk_far ?_ NB115_117.out _; (with_reducible repeat (first | refine blk_drewN ?_ _ | refine blk_drew ?_ | refine blk_alloc ?_ _)); refine blk_far ?_ NB115_117.out _; (with_reducible repeat (first | refine blk_drewN ?_ _ | refine blk_drew ?_ | refine blk_alloc ?_ _)); exact BK115.out⟩, ⟨by (with_reducible repeat (first | refine blk_drewN ?_ _ | refine blk_drew ?_ | refine blk_alloc ?_ _)); refine blk_put (cs := #[.int .i64 x118000_1, .int .i64 x118001_1, .float .f64 0, .float .f64 (rdOf (0 : Nat) l0 x6_1), .float .f64 (rdOf (0 : Nat) l0 x6_1)]) ?_ 0 _ rfl; (with_reducible repeat (first | refine blk_drewN ?_ _ | refine blk_drew ?_ | refine blk_alloc ?_ _)); refine blk_put (cs := #[.int .i64 x118000_1, .int .i64 x118001_1, .float .f64 0, .float .f64 (rdOf (0 : Nat) l0 x6_1), .float .f64 x118004_1]) ?_ 4 _ rfl; (with_reducible repeat (first | refine blk_drewN ?_ _ | refine blk_drew ?_ | refine blk_alloc ?_ _)); refine blk_put (cs := #[.int .i64 x118000_1, .int .i64 x118001_1, .float .f64 0, .float .f64 x118003_1, .float .f64 x118004_1]) ?_ 3 _ rfl; (with_reducible repeat (first | refine blk_drewN ?_ _ | refine blk_drew ?_ | refine blk_alloc ?_ _)); exact BK117.out⟩, ⟨by repeat (first | (with_reducible first | exact HB.out | apply below_alloc | apply pw_below_drewN | apply below_drew1 | refine below_set ?_ GE115.out | refine below_set ?_ GE117.out) | exact HB.out)⟩⟩
                      · rw [if_neg c22] at H
                        have c22b0 : (x118000_1 == 0) = false := beq_eq_false_iff_ne.mpr c22
                        have c22b1 : (x118000_1 != 0) = true := bne_iff_ne.mpr c22
                        by_cases c26 : (fGt .f64 (rdOf (0 : Nat) l0 x6_1) x118004_1) = true
                        · rw [if_pos c26] at H
                          have c26b0 : (fGt .f64 (rdOf (0 : Nat) l0 x6_1) x118004_1) = true := c26
                          clear c26
                          replace H := Option.bind_eq_some_iff.mp H
                          obtain ⟨t123, HF_, H⟩ := H
                          replace H : (spec_WatchOf.l0 kj14 l0 t123 (wrap64 (x6_1 + 1)) (wrap64 (x118000_1 + 1)) x118001_1 0 (rdOf (0 : Nat) l0 x6_1) (rdOf (0 : Nat) l0 x6_1)) = some (r1, r2, r3, r4, r5, r6) := H
                          have hfz27_0 : ∀ W_ : World, (binOp .add 41 (.float .f64 x5_1) (.float .f64 (rdOf (0 : Nat) l0 x6_1))).run Try.prog W_ = .ok (.float .f64 t123) W_ := fun W_ => run_float_arith W_ .add 41 .f64 x5_1 (rdOf (0 : Nat) l0 x6_1) t123 HF_
                          clear HF_
                          have H' := Aside0.mk H
                          clear H
                          have hnb28 := NB117_115.out
                          have hnc28 := NB115_117.out
                          have hcz29_0 : wc.cell? ⟨gb117, 0, none⟩ = some (.int .i64 x118000_1) := (blk_cell BK117.out 0).trans rfl
                          have hcz29_1 : wc.cell? ⟨gb117, 1, none⟩ = some (.int .i64 x118001_1) := (blk_cell BK117.out 1).trans rfl
                          have hcz29_2 : wc.cell? ⟨gb117, 2, none⟩ = some (.float .f64 0) := (blk_cell BK117.out 2).trans rfl
                          have hcz29_3 : wc.cell? ⟨gb117, 3, none⟩ = some (.float .f64 x118003_1) := (blk_cell BK117.out 3).trans rfl
                          have hcz29_4 : wc.cell? ⟨gb117, 4, none⟩ = some (.float .f64 x118004_1) := (blk_cell BK117.out 4).trans rfl
                          have hfz29_0 := blk_frozen BK117.out 0
                          have hfz29_1 := blk_frozen BK117.out 1
                          have hfz29_2 := blk_frozen BK117.out 2
                          have hfz29_3 := blk_frozen BK117.out 3
                          have hfz29_4 := blk_frozen BK117.out 4
                          go_wp2
                          go_roundg kj14
                          case measure => have := HK1.out; have := HJ14.out; omega
                          case rel => exact ⟨(t123), (wrap64 (x6_1 + 1)), (wrap64 (x118000_1 + 1)), (x118001_1), ((rdOf (0 : Nat) l0 x6_1)), ((rdOf (0 : Nat) l0 x6_1)), (by first | rfl | (simp; done) | (simp [*]; done)), (by first | rfl | (simp; done) | (simp [*]; done)), H', ⟨by have := HK1.out; have := HJ14.out; omega⟩, ⟨by (with_reducible repeat (first | refine blk_drewN ?_ _ | refine blk_drew ?_ | refine blk_alloc ?_ _)); refine blk_far ?_ NB115_117.out _; (with_reducible repeat (first | refine blk_drewN ?_ _ | refine blk_drew ?_ | refine blk_alloc ?_ _)); refine blk_far ?_ NB115_117.out _; (with_reducible repeat (first | refine blk_drewN ?_ _ | refine blk_drew ?_ | refine blk_alloc ?_ _)); refine blk_far ?_ NB115_117.out _; (with_reducible repeat (first | refine blk_drewN ?_ _ | refine blk_drew ?_ | refine blk_alloc ?_ _)); exact BK115.out⟩, ⟨by (with_reducible repeat (first | refine blk_drewN ?_ _ | refine blk_drew ?_ | refine blk_alloc ?_ _)); refine blk_put (cs := #[.int .i64 x118000_1, .int .i64 x118001_1, .float .f64 0, .float .f64 (rdOf (0 : Nat) l0 x6_1), .float .f64 (rdOf (0 : Nat) l0 x6_1)]) ?_ 0 _ rfl; (with_reducible repeat (first | refine blk_drewN ?_ _ | refine blk_drew ?_ | refine blk_alloc ?_ _)); refine blk_put (cs := #[.int .i64 x118000_1, .int .i64 x118001_1, .float .f64 0, .float .f64 (rdOf (0 : Nat) l0 x6_1), .float .f64 x118004_1]) ?_ 4 _ rfl; (with_reducible repeat (first | refine blk_drewN ?_ _ | refine blk_drew ?_ | refine blk_alloc ?_ _)); refine blk_put (cs := #[.int .i64 x118000_1, .int .i64 x118001_1, .float .f64 0, .float .f64 x118003_1, .float .f64 x118004_1]) ?_ 3 _ rfl; (with_reducible repeat (first | refine blk_drewN ?_ _ | refine blk_drew ?_ | refine blk_alloc ?_ _)); exact BK117.out⟩, ⟨by repeat (first | (with_reducible first | exact HB.out | apply below_alloc | apply pw_below_drewN | apply below_drew1 | refine below_set ?_ GE115.out | refine below_set ?_ GE117.out) | exact HB.out)⟩⟩
                        · rw [if_neg c26] at H
                          have c26b0 : (fGt .f64 (rdOf (0 : Nat) l0 x6_1) x118004_1) = false := by simpa using c26
                          clear c26
                          replace H := Option.bind_eq_some_iff.mp H
                          obtain ⟨t124, HF_, H⟩ := H
                          replace H : (spec_WatchOf.l0 kj14 l0 t124 (wrap64 (x6_1 + 1)) (wrap64 (x118000_1 + 1)) x118001_1 0 (rdOf (0 : Nat) l0 x6_1) x118004_1) = some (r1, r2, r3, r4, r5, r6) := H
                          have hfz30_0 : ∀ W_ : World, (binOp .add 41 (.float .f64 x5_1) (.float .f64 (rdOf (0 : Nat) l0 x6_1))).run Try.prog W_ = .ok (.float .f64 t124) W_ := fun W_ => run_float_arith W_ .add 41 .f64 x5_1 (rdOf (0 : Nat) l0 x6_1) t124 HF_
                          clear HF_
                          have H' := Aside0.mk H
                          clear H
                          have hnb31 := NB117_115.out
                          have hnc31 := NB115_117.out
                          have hcz32_0 : wc.cell? ⟨gb117, 0, none⟩ = some (.int .i64 x118000_1) := (blk_cell BK117.out 0).trans rfl
                          have hcz32_1 : wc.cell? ⟨gb117, 1, none⟩ = some (.int .i64 x118001_1) := (blk_cell BK117.out 1).trans rfl
                          have hcz32_2 : wc.cell? ⟨gb117, 2, none⟩ = some (.float .f64 0) := (blk_cell BK117.out 2).trans rfl
                          have hcz32_3 : wc.cell? ⟨gb117, 3, none⟩ = some (.float .f64 x118003_1) := (blk_cell BK117.out 3).trans rfl
                          have hcz32_4 : wc.cell? ⟨gb117, 4, none⟩ = some (.float .f64 x118004_1) := (blk_cell BK117.out 4).trans rfl
                          have hfz32_0 := blk_frozen BK117.out 0
                          have hfz32_1 := blk_frozen BK117.out 1
                          have hfz32_2 := blk_frozen BK117.out 2
                          have hfz32_3 := blk_frozen BK117.out 3
                          have hfz32_4 := blk_frozen BK117.out 4
                          go_wp2
                          go_roundg kj14
                          case measure => have := HK1.out; have := HJ14.out; omega
                          case rel => exact ⟨(t124), (wrap64 (x6_1 + 1)), (wrap64 (x118000_1 + 1)), (x118001_1), ((rdOf (0 : Nat) l0 x6_1)), (x118004_1), (by first | rfl | (simp; done) | (simp [*]; done)), (by first | rfl | (simp; done) | (simp [*]; done)), H', ⟨by have := HK1.out; have := HJ14.out; omega⟩, ⟨by (with_reducible repeat (first | refine blk_drewN ?_ _ | refine blk_drew ?_ | refine blk_alloc ?_ _)); refine blk_far ?_ NB115_117.out _; (with_reducible repeat (first | refine blk_drewN ?_ _ | refine blk_drew ?_ | refine blk_alloc ?_ _)); refine blk_far ?_ NB115_117.out _; (with_reducible repeat (first | refine blk_drewN ?_ _ | refine blk_drew ?_ | refine blk_alloc ?_ _)); exact BK115.out⟩, ⟨by (with_reducible repeat (first | refine blk_drewN ?_ _ | refine blk_drew ?_ | refine blk_alloc ?_ _)); refine blk_put (cs := #[.int .i64 x118000_1, .int .i64 x118001_1, .float .f64 0, .float .f64 (rdOf (0 : Nat) l0 x6_1), .float .f64 x118004_1]) ?_ 0 _ rfl; (with_reducible repeat (first | refine blk_drewN ?_ _ | refine blk_drew ?_ | refine blk_alloc ?_ _)); refine blk_put (cs := #[.int .i64 x118000_1, .int .i64 x118001_1, .float .f64 0, .float .f64 x118003_1, .float .f64 x118004_1]) ?_ 3 _ rfl; (with_reducible repeat (first | refine blk_drewN ?_ _ | refine blk_drew ?_ | refine blk_alloc ?_ _)); exact BK117.out⟩, ⟨by repeat (first | (with_reducible first | exact HB.out | apply below_alloc | apply pw_below_drewN | apply below_drew1 | refine below_set ?_ GE115.out | refine below_set ?_ GE117.out) | exact HB.out)⟩⟩
                    · replace c21 := Bool.eq_false_iff.mpr c21
                      subst c21
                      have H1 : (if x118000_1 = 0 then ((floatBits .add .f64 x5_1 (rdOf (0 : Nat) l0 x6_1)).bind fun t125 => (spec_WatchOf.l0 kj14 l0 t125 (wrap64 (x6_1 + 1)) (wrap64 (x118000_1 + 1)) x118001_1 0 x118003_1 (rdOf (0 : Nat) l0 x6_1))) else (if (fGt .f64 (rdOf (0 : Nat) l0 x6_1) x118004_1) = true then ((floatBits .add .f64 x5_1 (rdOf (0 : Nat) l0 x6_1)).bind fun t126 => (spec_WatchOf.l0 kj14 l0 t126 (wrap64 (x6_1 + 1)) (wrap64 (x118000_1 + 1)) x118001_1 0 x118003_1 (rdOf (0 : Nat) l0 x6_1))) else ((floatBits .add .f64 x5_1 (rdOf (0 : Nat) l0 x6_1)).bind fun t127 => (spec_WatchOf.l0 kj14 l0 t127 (wrap64 (x6_1 + 1)) (wrap64 (x118000_1 + 1)) x118001_1 0 x118003_1 x118004_1)))) = some (r1, r2, r3, r4, r5, r6) := by rw [if_neg (show ¬ (false = true) by decide)] at H; exact H
                      clear H
                      have H := H1
                      clear H1
                      by_cases c33 : x118000_1 = 0
                      · rw [if_pos c33] at H
                        have c33b0 : (x118000_1 == 0) = true := beq_iff_eq.mpr c33
                        have c33b1 : (x118000_1 != 0) = false := bne_eq_false_iff_eq.mpr c33
                        clear c33
                        replace H := Option.bind_eq_some_iff.mp H
                        obtain ⟨t125, HF_, H⟩ := H
                        replace H : (spec_WatchOf.l0 kj14 l0 t125 (wrap64 (x6_1 + 1)) (wrap64 (x118000_1 + 1)) x118001_1 0 x118003_1 (rdOf (0 : Nat) l0 x6_1)) = some (r1, r2, r3, r4, r5, r6) := H
                        have hfz34_0 : ∀ W_ : World, (binOp .add 41 (.float .f64 x5_1) (.float .f64 (rdOf (0 : Nat) l0 x6_1))).run Try.prog W_ = .ok (.float .f64 t125) W_ := fun W_ => run_float_arith W_ .add 41 .f64 x5_1 (rdOf (0 : Nat) l0 x6_1) t125 HF_
                        clear HF_
                        have H' := Aside0.mk H
                        clear H
                        have hnb35 := NB117_115.out
                        have hnc35 := NB115_117.out
                        have hcz36_0 : wc.cell? ⟨gb117, 0, none⟩ = some (.int .i64 x118000_1) := (blk_cell BK117.out 0).trans rfl
                        have hcz36_1 : wc.cell? ⟨gb117, 1, none⟩ = some (.int .i64 x118001_1) := (blk_cell BK117.out 1).trans rfl
                        have hcz36_2 : wc.cell? ⟨gb117, 2, none⟩ = some (.float .f64 0) := (blk_cell BK117.out 2).trans rfl
                        have hcz36_3 : wc.cell? ⟨gb117, 3, none⟩ = some (.float .f64 x118003_1) := (blk_cell BK117.out 3).trans rfl
                        have hcz36_4 : wc.cell? ⟨gb117, 4, none⟩ = some (.float .f64 x118004_1) := (blk_cell BK117.out 4).trans rfl
                        have hfz36_0 := blk_frozen BK117.out 0
                        have hfz36_1 := blk_frozen BK117.out 1
                        have hfz36_2 := blk_frozen BK117.out 2
                        have hfz36_3 := blk_frozen BK117.out 3
                        have hfz36_4 := blk_frozen BK117.out 4
                        go_wp2
                        go_roundg kj14
                        case measure => have := HK1.out; have := HJ14.out; omega
                        case rel => exact ⟨(t125), (wrap64 (x6_1 + 1)), (wrap64 (x118000_1 + 1)), (x118001_1), (x118003_1), ((rdOf (0 : Nat) l0 x6_1)), (by first | rfl | (simp; done) | (simp [*]; done)), (by first | rfl | (simp; done) | (simp [*]; done)), H', ⟨by have := HK1.out; have := HJ14.out; omega⟩, ⟨by (with_reducible repeat (first | refine blk_drewN ?_ _ | refine blk_drew ?_ | refine blk_alloc ?_ _)); refine blk_far ?_ NB115_117.out _; (with_reducible repeat (first | refine blk_drewN ?_ _ | refine blk_drew ?_ | refine blk_alloc ?_ _)); refine blk_far ?_ NB115_117.out _; (with_reducible repeat (first | refine blk_drewN ?_ _ | refine blk_drew ?_ | refine blk_alloc ?_ _)); exact BK115.out⟩, ⟨by (with_reducible repeat (first | refine blk_drewN ?_ _ | refine blk_drew ?_ | refine blk_alloc ?_ _)); refine blk_put (cs := #[.int .i64 x118000_1, .int .i64 x118001_1, .float .f64 0, .float .f64 x118003_1, .float .f64 (rdOf (0 : Nat) l0 x6_1)]) ?_ 0 _ rfl; (with_reducible repeat (first | refine blk_drewN ?_ _ | refine blk_drew ?_ | refine blk_alloc ?_ _)); refine blk_put (cs := #[.int .i64 x118000_1, .int .i64 x118001_1, .float .f64 0, .float .f64 x118003_1, .float .f64 x118004_1]) ?_ 4 _ rfl; (with_reducible repeat (first | refine blk_drewN ?_ _ | refine blk_drew ?_ | refine blk_alloc ?_ _)); exact BK117.out⟩, ⟨by repeat (first | (with_reducible first | exact HB.out | apply below_alloc | apply pw_below_drewN | apply below_drew1 | refine below_set ?_ GE115.out | refine below_set ?_ GE117.out) | exact HB.out)⟩⟩
                      · rw [if_neg c33] at H
                        have c33b0 : (x118000_1 == 0) = false := beq_eq_false_iff_ne.mpr c33
                        have c33b1 : (x118000_1 != 0) = true := bne_iff_ne.mpr c33
                        by_cases c37 : (fGt .f64 (rdOf (0 : Nat) l0 x6_1) x118004_1) = true
                        · rw [if_pos c37] at H
                          have c37b0 : (fGt .f64 (rdOf (0 : Nat) l0 x6_1) x118004_1) = true := c37
                          clear c37
                          replace H := Option.bind_eq_some_iff.mp H
                          obtain ⟨t126, HF_, H⟩ := H
                          replace H : (spec_WatchOf.l0 kj14 l0 t126 (wrap64 (x6_1 + 1)) (wrap64 (x118000_1 + 1)) x118001_1 0 x118003_1 (rdOf (0 : Nat) l0 x6_1)) = some (r1, r2, r3, r4, r5, r6) := H
                          have hfz38_0 : ∀ W_ : World, (binOp .add 41 (.float .f64 x5_1) (.float .f64 (rdOf (0 : Nat) l0 x6_1))).run Try.prog W_ = .ok (.float .f64 t126) W_ := fun W_ => run_float_arith W_ .add 41 .f64 x5_1 (rdOf (0 : Nat) l0 x6_1) t126 HF_
                          clear HF_
                          have H' := Aside0.mk H
                          clear H
                          have hnb39 := NB117_115.out
                          have hnc39 := NB115_117.out
                          have hcz40_0 : wc.cell? ⟨gb117, 0, none⟩ = some (.int .i64 x118000_1) := (blk_cell BK117.out 0).trans rfl
                          have hcz40_1 : wc.cell? ⟨gb117, 1, none⟩ = some (.int .i64 x118001_1) := (blk_cell BK117.out 1).trans rfl
                          have hcz40_2 : wc.cell? ⟨gb117, 2, none⟩ = some (.float .f64 0) := (blk_cell BK117.out 2).trans rfl
                          have hcz40_3 : wc.cell? ⟨gb117, 3, none⟩ = some (.float .f64 x118003_1) := (blk_cell BK117.out 3).trans rfl
                          have hcz40_4 : wc.cell? ⟨gb117, 4, none⟩ = some (.float .f64 x118004_1) := (blk_cell BK117.out 4).trans rfl
                          have hfz40_0 := blk_frozen BK117.out 0
                          have hfz40_1 := blk_frozen BK117.out 1
                          have hfz40_2 := blk_frozen BK117.out 2
                          have hfz40_3 := blk_frozen BK117.out 3
                          have hfz40_4 := blk_frozen BK117.out 4
                          go_wp2
                          go_roundg kj14
                          case measure => have := HK1.out; have := HJ14.out; omega
                          case rel => exact ⟨(t126), (wrap64 (x6_1 + 1)), (wrap64 (x118000_1 + 1)), (x118001_1), (x118003_1), ((rdOf (0 : Nat) l0 x6_1)), (by first | rfl | (simp; done) | (simp [*]; done)), (by first | rfl | (simp; done) | (simp [*]; done)), H', ⟨by have := HK1.out; have := HJ14.out; omega⟩, ⟨by (with_reducible repeat (first | refine blk_drewN ?_ _ | refine blk_drew ?_ | refine blk_alloc ?_ _)); refine blk_far ?_ NB115_117.out _; (with_reducible repeat (first | refine blk_drewN ?_ _ | refine blk_drew ?_ | refine blk_alloc ?_ _)); refine blk_far ?_ NB115_117.out _; (with_reducible repeat (first | refine blk_drewN ?_ _ | refine blk_drew ?_ | refine blk_alloc ?_ _)); exact BK115.out⟩, ⟨by (with_reducible repeat (first | refine blk_drewN ?_ _ | refine blk_drew ?_ | refine blk_alloc ?_ _)); refine blk_put (cs := #[.int .i64 x118000_1, .int .i64 x118001_1, .float .f64 0, .float .f64 x118003_1, .float .f64 (rdOf (0 : Nat) l0 x6_1)]) ?_ 0 _ rfl; (with_reducible repeat (first | refine blk_drewN ?_ _ | refine blk_drew ?_ | refine blk_alloc ?_ _)); refine blk_put (cs := #[.int .i64 x118000_1, .int .i64 x118001_1, .float .f64 0, .float .f64 x118003_1, .float .f64 x118004_1]) ?_ 4 _ rfl; (with_reducible repeat (first | refine blk_drewN ?_ _ | refine blk_drew ?_ | refine blk_alloc ?_ _)); exact BK117.out⟩, ⟨by repeat (first | (with_reducible first | exact HB.out | apply below_alloc | apply pw_below_drewN | apply below_drew1 | refine below_set ?_ GE115.out | refine below_set ?_ GE117.out) | exact HB.out)⟩⟩
                        · rw [if_neg c37] at H
                          have c37b0 : (fGt .f64 (rdOf (0 : Nat) l0 x6_1) x118004_1) = false := by simpa using c37
                          clear c37
                          replace H := Option.bind_eq_some_iff.mp H
                          obtain ⟨t127, HF_, H⟩ := H
                          replace H : (spec_WatchOf.l0 kj14 l0 t127 (wrap64 (x6_1 + 1)) (wrap64 (x118000_1 + 1)) x118001_1 0 x118003_1 x118004_1) = some (r1, r2, r3, r4, r5, r6) := H
                          have hfz41_0 : ∀ W_ : World, (binOp .add 41 (.float .f64 x5_1) (.float .f64 (rdOf (0 : Nat) l0 x6_1))).run Try.prog W_ = .ok (.float .f64 t127) W_ := fun W_ => run_float_arith W_ .add 41 .f64 x5_1 (rdOf (0 : Nat) l0 x6_1) t127 HF_
                          clear HF_
                          have H' := Aside0.mk H
                          clear H
                          have hnb42 := NB117_115.out
                          have hnc42 := NB115_117.out
                          have hcz43_0 : wc.cell? ⟨gb117, 0, none⟩ = some (.int .i64 x118000_1) := (blk_cell BK117.out 0).trans rfl
                          have hcz43_1 : wc.cell? ⟨gb117, 1, none⟩ = some (.int .i64 x118001_1) := (blk_cell BK117.out 1).trans rfl
                          have hcz43_2 : wc.cell? ⟨gb117, 2, none⟩ = some (.float .f64 0) := (blk_cell BK117.out 2).trans rfl
                          have hcz43_3 : wc.cell? ⟨gb117, 3, none⟩ = some (.float .f64 x118003_1) := (blk_cell BK117.out 3).trans rfl
                          have hcz43_4 : wc.cell? ⟨gb117, 4, none⟩ = some (.float .f64 x118004_1) := (blk_cell BK117.out 4).trans rfl
                          have hfz43_0 := blk_frozen BK117.out 0
                          have hfz43_1 := blk_frozen BK117.out 1
                          have hfz43_2 := blk_frozen BK117.out 2
                          have hfz43_3 := blk_frozen BK117.out 3
                          have hfz43_4 := blk_frozen BK117.out 4
                          go_wp2
                          go_roundg kj14
                          case measure => have := HK1.out; have := HJ14.out; omega
                          case rel => exact ⟨(t127), (wrap64 (x6_1 + 1)), (wrap64 (x118000_1 + 1)), (x118001_1), (x118003_1), (x118004_1), (by first | rfl | (simp; done) | (simp [*]; done)), (by first | rfl | (simp; done) | (simp [*]; done)), H', ⟨by have := HK1.out; have := HJ14.out; omega⟩, ⟨by (with_reducible repeat (first | refine blk_drewN ?_ _ | refine blk_drew ?_ | refine blk_alloc ?_ _)); refine blk_far ?_ NB115_117.out _; (with_reducible repeat (first | refine blk_drewN ?_ _ | refine blk_drew ?_ | refine blk_alloc ?_ _)); exact BK115.out⟩, ⟨by (with_reducible repeat (first | refine blk_drewN ?_ _ | refine blk_drew ?_ | refine blk_alloc ?_ _)); refine blk_put (cs := #[.int .i64 x118000_1, .int .i64 x118001_1, .float .f64 0, .float .f64 x118003_1, .float .f64 x118004_1]) ?_ 0 _ rfl; (with_reducible repeat (first | refine blk_drewN ?_ _ | refine blk_drew ?_ | refine blk_alloc ?_ _)); exact BK117.out⟩, ⟨by repeat (first | (with_reducible first | exact HB.out | apply below_alloc | apply pw_below_drewN | apply below_drew1 | refine below_set ?_ GE115.out | refine below_set ?_ GE117.out) | exact HB.out)⟩⟩
              · replace c14 := Bool.eq_false_iff.mpr c14
                subst c14
                have H1 : (spec_WatchOf.l0 k1 l0 x5_1 (wrap64 (x6_1 + 1)) x118000_1 (wrap64 (x118001_1 + 1)) 0 x118003_1 x118004_1) = some (r1, r2, r3, r4, r5, r6) := by rw [if_neg (show ¬ (false = true) by decide)] at H; exact H
                clear H
                have H := H1
                clear H1
                have H' := Aside0.mk H
                clear H
                have p120 : 0 ≤ (x6_1 : Int) := of_decide_eq_true (by first | (with_reducible assumption) | assumption)
                have q120 : x6_1 < (l0.length : Int) := of_decide_eq_true (by first | (with_reducible assumption) | assumption)
                obtain ⟨ad120, e120, hx120_0⟩ := Opens.at_flt HR0.out x6_1 p120 q120
                cases e120
                replace hx120_0 := (HB.out.cell (World.block_lt_of_cell? w _ hx120_0)).trans hx120_0
                replace p120 := eq_true p120
                replace q120 := eq_true q120
                go_wp2_with (first | ((with_reducible refine gate_callee (f := 66) rfl ?_); refine goesL_ (some 28) rfl rfl Try.func66 (by kernel_rfl) rfl #[.float .f64 (rdOf (0 : Nat) l0 x6_1)] rfl (by (try simp only [List.map_toArray, List.map_cons, List.map_nil]); first | done | rfl | (simp only [List.length_drop, List.length_take]; rfl)) ?_; (with_reducible refine (spec_l22There.calls (rdOf (0 : Nat) l0 x6_1) false _ A13.out).mono ?_); rintro e w' ⟨rfl, ⟨nd, rfl⟩⟩; refine ⟨_, rfl, ?_⟩; (try (rw [drewN_self wr]; generalize hq_ : World.drewN wr _ = wr; have n0_ : Aside0 (wr.heap[gb115]? = some (.cells #[.int .i64 0, .int .i64 0, .float .f64 0, .float .f64 0, .float .f64 0] 63 (0, 0))) := ⟨by rw [← hq_]; exact (by (with_reducible repeat (first | refine blk_drewN ?_ _ | refine blk_drew ?_ | refine blk_alloc ?_ _)); exact BK115.out)⟩; have n1_ : Aside0 (wr.heap[gb117]? = some (.cells #[.int .i64 x118000_1, .int .i64 x118001_1, .float .f64 0, .float .f64 x118003_1, .float .f64 x118004_1] 63 (0, 0))) := ⟨by rw [← hq_]; exact (by (with_reducible repeat (first | refine blk_drewN ?_ _ | refine blk_drew ?_ | refine blk_alloc ?_ _)); exact BK117.out)⟩; have n2_ : Aside0 (Below w.heap.size w wr) := ⟨by rw [← hq_]; exact (by repeat (first | (with_reducible first | exact HB.out | apply below_alloc | apply pw_below_drewN | apply below_drew1 | refine below_set ?_ GE115.out | refine below_set ?_ GE117.out) | exact HB.out))⟩; clear BK115 BK117 HB hq_; have BK115 := n0_; have BK117 := n1_; have HB := n2_; clear n0_ n1_ n2_)); have hnb44 := NB117_115.out; have hnc44 := NB115_117.out; have hcz45_0 : wr.cell? ⟨gb117, 0, none⟩ = some (.int .i64 x118000_1) := (blk_cell BK117.out 0).trans rfl; have hcz45_1 : wr.cell? ⟨gb117, 1, none⟩ = some (.int .i64 x118001_1) := (blk_cell BK117.out 1).trans rfl; have hcz45_2 : wr.cell? ⟨gb117, 2, none⟩ = some (.float .f64 0) := (blk_cell BK117.out 2).trans rfl; have hcz45_3 : wr.cell? ⟨gb117, 3, none⟩ = some (.float .f64 x118003_1) := (blk_cell BK117.out 3).trans rfl; have hcz45_4 : wr.cell? ⟨gb117, 4, none⟩ = some (.float .f64 x118004_1) := (blk_cell BK117.out 4).trans rfl; have hfz45_0 := blk_frozen BK117.out 0; have hfz45_1 := blk_frozen BK117.out 1; have hfz45_2 := blk_frozen BK117.out 2; have hfz45_3 := blk_frozen BK117.out 3; have hfz45_4 := blk_frozen BK117.out 4))
                go_roundg k1
                case measure => have := HK1.out; omega
                case rel => exact ⟨(x5_1), (wrap64 (x6_1 + 1)), (x118000_1), (wrap64 (x118001_1 + 1)), (x118003_1), (x118004_1), (by first | rfl | (simp; done) | (simp [*]; done)), (by first | rfl | (simp; done) | (simp [*]; done)), H', ⟨by have := HK1.out; omega⟩, ⟨by (with_reducible repeat (first | refine blk_drewN ?_ _ | refine blk_drew ?_ | refine blk_alloc ?_ _)); refine blk_far ?_ NB115_117.out _; (with_reducible repeat (first | refine blk_drewN ?_ _ | refine blk_drew ?_ | refine blk_alloc ?_ _)); exact BK115.out⟩, ⟨by (with_reducible repeat (first | refine blk_drewN ?_ _ | refine blk_drew ?_ | refine blk_alloc ?_ _)); refine blk_put (cs := #[.int .i64 x118000_1, .int .i64 x118001_1, .float .f64 0, .float .f64 x118003_1, .float .f64 x118004_1]) ?_ 1 _ rfl; (with_reducible repeat (first | refine blk_drewN ?_ _ | refine blk_drew ?_ | refine blk_alloc ?_ _)); exact BK117.out⟩, ⟨by repeat (first | (with_reducible first | exact HB.out | apply below_alloc | apply pw_below_drewN | apply below_drew1 | refine below_set ?_ GE115.out | refine below_set ?_ GE117.out) | exact HB.out)⟩⟩
            · rw [if_neg c12] at H
              exact absurd H (by simp)
          · rw [if_neg c11] at H
            have c11b0 : decide (x6_1 < (l0.length : Int)) = false := decide_eq_false c11
            clear c11
            by_cases c46 : x118000_1 = 0
            · rw [if_pos c46] at H
              have c46b0 : (x118000_1 == 0) = true := beq_iff_eq.mpr c46
              have c46b1 : (x118000_1 != 0) = false := bne_eq_false_iff_eq.mpr c46
              clear c46
              simp only [Option.some.injEq, Prod.mk.injEq] at H
              obtain ⟨rfl, rfl, rfl, rfl, rfl, rfl⟩ := H
              have hnb47 := NB117_115.out
              have hnc47 := NB115_117.out
              have hcz48_0 : wr.cell? ⟨gb117, 0, none⟩ = some (.int .i64 x118000_1) := (blk_cell BK117.out 0).trans rfl
              have hcz48_1 : wr.cell? ⟨gb117, 1, none⟩ = some (.int .i64 x118001_1) := (blk_cell BK117.out 1).trans rfl
              have hcz48_2 : wr.cell? ⟨gb117, 2, none⟩ = some (.float .f64 0) := (blk_cell BK117.out 2).trans rfl
              have hcz48_3 : wr.cell? ⟨gb117, 3, none⟩ = some (.float .f64 x118003_1) := (blk_cell BK117.out 3).trans rfl
              have hcz48_4 : wr.cell? ⟨gb117, 4, none⟩ = some (.float .f64 x118004_1) := (blk_cell BK117.out 4).trans rfl
              have hfz48_0 := blk_frozen BK117.out 0
              have hfz48_1 := blk_frozen BK117.out 1
              have hfz48_2 := blk_frozen BK117.out 2
              have hfz48_3 := blk_frozen BK117.out 3
              have hfz48_4 := blk_frozen BK117.out 4
              have hcz49_0 : wr.cell? ⟨gb115, 0, none⟩ = some (.int .i64 0) := (blk_cell BK115.out 0).trans rfl
              have hcz49_1 : wr.cell? ⟨gb115, 1, none⟩ = some (.int .i64 0) := (blk_cell BK115.out 1).trans rfl
              have hcz49_2 : wr.cell? ⟨gb115, 2, none⟩ = some (.float .f64 0) := (blk_cell BK115.out 2).trans rfl
              have hcz49_3 : wr.cell? ⟨gb115, 3, none⟩ = some (.float .f64 0) := (blk_cell BK115.out 3).trans rfl
              have hcz49_4 : wr.cell? ⟨gb115, 4, none⟩ = some (.float .f64 0) := (blk_cell BK115.out 4).trans rfl
              have hfz49_0 := blk_frozen BK115.out 0
              have hfz49_1 := blk_frozen BK115.out 1
              have hfz49_2 := blk_frozen BK115.out 2
              have hfz49_3 := blk_frozen BK115.out 3
              have hfz49_4 := blk_frozen BK115.out 4
              go_wp2
              refine bodyPost_ret (results_ct rfl _ _ gb115 63 #[.int .i64 0, .int .i64 0, .float .f64 0, .float .f64 0, .float .f64 0] (0, 0) _ rfl (by (with_reducible repeat (first | refine blk_drewN ?_ _ | refine blk_drew ?_ | refine blk_alloc ?_ _)); refine blk_put (cs := #[.int .i64 0, .int .i64 0, .float .f64 0, .float .f64 0, .float .f64 0]) ?_ 4 _ rfl; (with_reducible repeat (first | refine blk_drewN ?_ _ | refine blk_drew ?_ | refine blk_alloc ?_ _)); refine blk_put (cs := #[.int .i64 0, .int .i64 0, .float .f64 0, .float .f64 0, .float .f64 0]) ?_ 3 _ rfl; (with_reducible repeat (first | refine blk_drewN ?_ _ | refine blk_drew ?_ | refine blk_alloc ?_ _)); refine blk_put (cs := #[.int .i64 0, .int .i64 0, .float .f64 0, .float .f64 0, .float .f64 0]) ?_ 2 _ rfl; (with_reducible repeat (first | refine blk_drewN ?_ _ | refine blk_drew ?_ | refine blk_alloc ?_ _)); refine blk_put (cs := #[.int .i64 0, .int .i64 0, .float .f64 0, .float .f64 0, .float .f64 0]) ?_ 1 _ rfl; (with_reducible repeat (first | refine blk_drewN ?_ _ | refine blk_drew ?_ | refine blk_alloc ?_ _)); refine blk_put (cs := #[.int .i64 0, .int .i64 0, .float .f64 0, .float .f64 0, .float .f64 0]) ?_ 0 _ rfl; (with_reducible repeat (first | refine blk_drewN ?_ _ | refine blk_drew ?_ | refine blk_alloc ?_ _)); exact BK115.out) Try.underlying63 rfl (by kernel_rfl)) rfl ?_
              exact ⟨by first | rfl | (simp [errW_none, errW_some] <;> rfl) | (simp [*, errW_none, errW_some] <;> rfl), by repeat (first | (with_reducible first | exact HB.out | apply below_alloc | apply pw_below_drewN | apply below_drew1 | refine below_set ?_ GE115.out | refine below_set ?_ GE117.out) | exact HB.out)⟩
            · rw [if_neg c46] at H
              have c46b0 : (x118000_1 == 0) = false := beq_eq_false_iff_ne.mpr c46
              have c46b1 : (x118000_1 != 0) = true := bne_iff_ne.mpr c46
              have hfz118_0 : ∀ W_ : World, (convert 3 41 (.int .i64 x118000_1)).run Try.prog W_ = .ok (.float .f64 (floatOfInt .f64 x118000_1)) W_ := fun W_ => run_convert_int_float W_ 3 41 .i64 .f64 x118000_1 (by rw [Try.underlying3]; rfl) Try.underlying41
              replace H := Option.bind_eq_some_iff.mp H
              obtain ⟨t119, HF_, H⟩ := H
              replace H : (some (x118000_1, x118001_1, t119, x118003_1, x118004_1, 0)) = some (r1, r2, r3, r4, r5, r6) := H
              have hfz50_0 : ∀ W_ : World, (binOp .quo 41 (.float .f64 x5_1) (.float .f64 (floatOfInt .f64 x118000_1))).run Try.prog W_ = .ok (.float .f64 t119) W_ := fun W_ => run_float_arith W_ .quo 41 .f64 x5_1 (floatOfInt .f64 x118000_1) t119 HF_
              clear HF_
              simp only [Option.some.injEq, Prod.mk.injEq] at H
              obtain ⟨rfl, rfl, rfl, rfl, rfl, rfl⟩ := H
              have hnb51 := NB117_115.out
              have hnc51 := NB115_117.out
              have hcz52_0 : wr.cell? ⟨gb117, 0, none⟩ = some (.int .i64 x118000_1) := (blk_cell BK117.out 0).trans rfl
              have hcz52_1 : wr.cell? ⟨gb117, 1, none⟩ = some (.int .i64 x118001_1) := (blk_cell BK117.out 1).trans rfl
              have hcz52_2 : wr.cell? ⟨gb117, 2, none⟩ = some (.float .f64 0) := (blk_cell BK117.out 2).trans rfl
              have hcz52_3 : wr.cell? ⟨gb117, 3, none⟩ = some (.float .f64 x118003_1) := (blk_cell BK117.out 3).trans rfl
              have hcz52_4 : wr.cell? ⟨gb117, 4, none⟩ = some (.float .f64 x118004_1) := (blk_cell BK117.out 4).trans rfl
              have hfz52_0 := blk_frozen BK117.out 0
              have hfz52_1 := blk_frozen BK117.out 1
              have hfz52_2 := blk_frozen BK117.out 2
              have hfz52_3 := blk_frozen BK117.out 3
              have hfz52_4 := blk_frozen BK117.out 4
              have hcz53_0 : wr.cell? ⟨gb115, 0, none⟩ = some (.int .i64 0) := (blk_cell BK115.out 0).trans rfl
              have hcz53_1 : wr.cell? ⟨gb115, 1, none⟩ = some (.int .i64 0) := (blk_cell BK115.out 1).trans rfl
              have hcz53_2 : wr.cell? ⟨gb115, 2, none⟩ = some (.float .f64 0) := (blk_cell BK115.out 2).trans rfl
              have hcz53_3 : wr.cell? ⟨gb115, 3, none⟩ = some (.float .f64 0) := (blk_cell BK115.out 3).trans rfl
              have hcz53_4 : wr.cell? ⟨gb115, 4, none⟩ = some (.float .f64 0) := (blk_cell BK115.out 4).trans rfl
              have hfz53_0 := blk_frozen BK115.out 0
              have hfz53_1 := blk_frozen BK115.out 1
              have hfz53_2 := blk_frozen BK115.out 2
              have hfz53_3 := blk_frozen BK115.out 3
              have hfz53_4 := blk_frozen BK115.out 4
              go_wp2
              refine bodyPost_ret (results_ct rfl _ _ gb115 63 #[.int .i64 x118000_1, .int .i64 x118001_1, .float .f64 t119, .float .f64 x118003_1, .float .f64 x118004_1] (0, 0) _ rfl (by (with_reducible repeat (first | refine blk_drewN ?_ _ | refine blk_drew ?_ | refine blk_alloc ?_ _)); refine blk_put (cs := #[.int .i64 x118000_1, .int .i64 x118001_1, .float .f64 t119, .float .f64 x118003_1, .float .f64 0]) ?_ 4 _ rfl; (with_reducible repeat (first | refine blk_drewN ?_ _ | refine blk_drew ?_ | refine blk_alloc ?_ _)); refine blk_put (cs := #[.int .i64 x118000_1, .int .i64 x118001_1, .float .f64 t119, .float .f64 0, .float .f64 0]) ?_ 3 _ rfl; (with_reducible repeat (first | refine blk_drewN ?_ _ | refine blk_drew ?_ | refine blk_alloc ?_ _)); refine blk_put (cs := #[.int .i64 x118000_1, .int .i64 x118001_1, .float .f64 0, .float .f64 0, .float .f64 0]) ?_ 2 _ rfl; (with_reducible repeat (first | refine blk_drewN ?_ _ | refine blk_drew ?_ | refine blk_alloc ?_ _)); refine blk_put (cs := #[.int .i64 x118000_1, .int .i64 0, .float .f64 0, .float .f64 0, .float .f64 0]) ?_ 1 _ rfl; (with_reducible repeat (first | refine blk_drewN ?_ _ | refine blk_drew ?_ | refine blk_alloc ?_ _)); refine blk_put (cs := #[.int .i64 0, .int .i64 0, .float .f64 0, .float .f64 0, .float .f64 0]) ?_ 0 _ rfl; (with_reducible repeat (first | refine blk_drewN ?_ _ | refine blk_drew ?_ | refine blk_alloc ?_ _)); refine blk_far ?_ NB115_117.out _; (with_reducible repeat (first | refine blk_drewN ?_ _ | refine blk_drew ?_ | refine blk_alloc ?_ _)); exact BK115.out) Try.underlying63 rfl (by kernel_rfl)) rfl ?_
              exact ⟨by first | rfl | (simp [errW_none, errW_some] <;> rfl) | (simp [*, errW_none, errW_some] <;> rfl), by repeat (first | (with_reducible first | exact HB.out | apply below_alloc | apply pw_below_drewN | apply below_drew1 | refine below_set ?_ GE115.out | refine below_set ?_ GE117.out) | exact HB.out)⟩
    · replace c6 := Bool.eq_false_iff.mpr c6
      subst c6
      have H1 : (some (0, 0, 0, 0, 0, 1)) = some (r1, r2, r3, r4, r5, r6) := by rw [if_neg (show ¬ (false = true) by decide)] at H; exact H
      clear H
      have H := H1
      clear H1
      simp only [Option.some.injEq, Prod.mk.injEq] at H
      obtain ⟨rfl, rfl, rfl, rfl, rfl, rfl⟩ := H
      go_enter Try.func34, Try.ntmps34
      go_wp2_with (first | ((with_reducible refine gate_dst (N := 2) rfl ?_); refine box_event ?hg (N := 2) ?hd (cs := #[.int .i64 0, .int .i64 0, .float .f64 0, .float .f64 0, .float .f64 0]) (t := 63) ?hr ?_; (case hd => rfl); (case hg => rfl); (case hr => first | (go_simp; done) | (go_simp; rfl)); intro gb115 hg w54 hbox hb; have n0_ := Aside0.mk (below_step (by repeat (first | (with_reducible first | exact HB.out | apply below_alloc | apply pw_below_drewN | apply below_drew1) | exact HB.out)) hb); have n1_ := Aside0.mk (hbox); have n2_ := Aside0.mk ((by rw [hg]; exact (below_size (by repeat (first | (with_reducible first | exact HB.out | apply below_alloc | apply pw_below_drewN | apply below_drew1) | exact HB.out))) : w.heap.size ≤ gb115)); have n3_ := Aside0.mk ((by rw [hg]; exact (below_size (by repeat (first | (with_reducible first | exact HB.out | apply below_alloc | apply pw_below_drewN | apply below_drew1) | exact HB.out))) : w.heap.size ≤ gb115)); clear HB; have HB := n0_; have BK115 := n1_; have GW115 := n2_; have GE115 := n3_; clear n0_ n1_ n2_ n3_; clear hb hbox hg) | ((with_reducible refine gate_callee (f := 64) rfl ?_); refine goesL_ (some 13) rfl rfl Try.func64 (by kernel_rfl) rfl #[.slice A0 l0.length c0] rfl (by (try simp only [List.map_toArray, List.map_cons, List.map_nil]); first | done | rfl | (simp only [List.length_drop, List.length_take]; rfl)) ?_; (with_reducible refine (spec_l22Trace.calls k _ _ l0 false _ ?side1 ?side2 A5.out).mono ?_); (case side1 => repeat (first | exact (Kd.C_below HR0.out HB.out) | (with_reducible refine Kd.C_alloc ?_ _) | (with_reducible refine Kd.C_drewN ?_ _) | (with_reducible refine Kd.C_drew ?_))); (case side2 => exact HC0.out); rintro e w' ⟨rfl, ⟨nd, rfl⟩⟩; refine ⟨_, rfl, ?_⟩; (try (rw [drewN_self w54]; generalize hq_ : World.drewN w54 _ = w54; have n0_ : Aside0 (w54.heap[gb115]? = some (.cells #[.int .i64 0, .int .i64 0, .float .f64 0, .float .f64 0, .float .f64 0] 63 (0, 0))) := ⟨by rw [← hq_]; exact (by (with_reducible repeat (first | refine blk_drewN ?_ _ | refine blk_drew ?_ | refine blk_alloc ?_ _)); exact BK115.out)⟩; have n1_ : Aside0 (Below w.heap.size w w54) := ⟨by rw [← hq_]; exact (by repeat (first | (with_reducible first | exact HB.out | apply below_alloc | apply pw_below_drewN | apply below_drew1 | refine below_set ?_ GE115.out) | exact HB.out))⟩; clear BK115 HB hq_; have BK115 := n0_; have HB := n1_; clear n0_ n1_)); have hcz55_0 : w54.cell? ⟨gb115, 0, none⟩ = some (.int .i64 0) := (blk_cell BK115.out 0).trans rfl; have hcz55_1 : w54.cell? ⟨gb115, 1, none⟩ = some (.int .i64 0) := (blk_cell BK115.out 1).trans rfl; have hcz55_2 : w54.cell? ⟨gb115, 2, none⟩ = some (.float .f64 0) := (blk_cell BK115.out 2).trans rfl; have hcz55_3 : w54.cell? ⟨gb115, 3, none⟩ = some (.float .f64 0) := (blk_cell BK115.out 3).trans rfl; have hcz55_4 : w54.cell? ⟨gb115, 4, none⟩ = some (.float .f64 0) := (blk_cell BK115.out 4).trans rfl; have hfz55_0 := blk_frozen BK115.out 0; have hfz55_1 := blk_frozen BK115.out 1; have hfz55_2 := blk_frozen BK115.out 2; have hfz55_3 := blk_frozen BK115.out 3; have hfz55_4 := blk_frozen BK115.out 4))
      refine bodyPost_ret (results_ct rfl _ _ gb115 63 #[.int .i64 0, .int .i64 0, .float .f64 0, .float .f64 0, .float .f64 0] (0, 0) _ rfl (by (with_reducible repeat (first | refine blk_drewN ?_ _ | refine blk_drew ?_ | refine blk_alloc ?_ _)); refine blk_put (cs := #[.int .i64 0, .int .i64 0, .float .f64 0, .float .f64 0, .float .f64 0]) ?_ 4 _ rfl; (with_reducible repeat (first | refine blk_drewN ?_ _ | refine blk_drew ?_ | refine blk_alloc ?_ _)); refine blk_put (cs := #[.int .i64 0, .int .i64 0, .float .f64 0, .float .f64 0, .float .f64 0]) ?_ 3 _ rfl; (with_reducible repeat (first | refine blk_drewN ?_ _ | refine blk_drew ?_ | refine blk_alloc ?_ _)); refine blk_put (cs := #[.int .i64 0, .int .i64 0, .float .f64 0, .float .f64 0, .float .f64 0]) ?_ 2 _ rfl; (with_reducible repeat (first | refine blk_drewN ?_ _ | refine blk_drew ?_ | refine blk_alloc ?_ _)); refine blk_put (cs := #[.int .i64 0, .int .i64 0, .float .f64 0, .float .f64 0, .float .f64 0]) ?_ 1 _ rfl; (with_reducible repeat (first | refine blk_drewN ?_ _ | refine blk_drew ?_ | refine blk_alloc ?_ _)); refine blk_put (cs := #[.int .i64 0, .int .i64 0, .float .f64 0, .float .f64 0, .float .f64 0]) ?_ 0 _ rfl; (with_reducible repeat (first | refine blk_drewN ?_ _ | refine blk_drew ?_ | refine blk_alloc ?_ _)); exact BK115.out) Try.underlying63 rfl (by kernel_rfl)) rfl ?_
      exact ⟨by first | rfl | (simp [errW_none, errW_some] <;> rfl) | (simp [*, errW_none, errW_some] <;> rfl), by repeat (first | (with_reducible first | exact HB.out | apply below_alloc | apply pw_below_drewN | apply below_drew1 | refine below_set ?_ GE115.out) | exact HB.out)⟩

/-! ### impl_isList_float64: function 67 -/
def impl_isList_float64.f (l0 : List Nat) : Option (Bool) := some (decide ((l0.length : Int) ≤ 4096))
set_option maxHeartbeats 8000000 in
set_option maxRecDepth 100000 in
theorem impl_isList_float64.calls (A0 : Option Addr) (c0 : Nat) (l0 : List Nat) (r : Bool) (w : World) (hr0 : Kd.C (Opens.flt .f64) w A0 l0.length l0) (hc0 : l0.length ≤ c0) (h : impl_isList_float64.f l0 = some r) :
    Calls Try.prog 67 #[.slice A0 l0.length c0] w fun e w' => e = .returned (.bool r) ∧ Drawn0 w w' := by
  have HR0 := Aside0.mk hr0
  have HC0 := Aside0.mk hc0
  clear hr0 hc0
  have H : (some (decide ((l0.length : Int) ≤ 4096))) = some r := h
  clear h
  obtain rfl := Option.some.inj H
  go_enter Try.func67, Try.ntmps67
  go_wp2
  go_ret
  exact ⟨by first | rfl | (simp; done) | (simp [*]; done), by repeat (first | exact Drawn0.refl _ | apply Drawn0.step)⟩

/-! ### impl_isReading: function 69 -/
def impl_isReading.f (a0 : Nat) : Option (Bool) := if (fGe .f64 a0 13875379345695965184) = true then (some (fLe .f64 a0 4652007308841189376)) else (some false)
set_option maxHeartbeats 8000000 in
set_option maxRecDepth 100000 in
theorem impl_isReading.calls (a0 : Nat) (r : Bool) (w : World) (h : impl_isReading.f a0 = some r) :
    Calls Try.prog 69 #[.float .f64 a0] w fun e w' => e = .returned (.bool r) ∧ Drawn0 w w' := by
  have H : (if (fGe .f64 a0 13875379345695965184) = true then (some (fLe .f64 a0 4652007308841189376)) else (some false)) = some r := h
  clear h
  by_cases c2 : (fGe .f64 a0 13875379345695965184) = true
  · rw [if_pos c2] at H
    have c2b0 : (fGe .f64 a0 13875379345695965184) = true := c2
    clear c2
    obtain rfl := Option.some.inj H
    go_enter Try.func69, Try.ntmps69
    go_wp2
    go_ret
    exact ⟨by first | rfl | (simp; done) | (simp [*]; done), by repeat (first | exact Drawn0.refl _ | apply Drawn0.step)⟩
  · rw [if_neg c2] at H
    have c2b0 : (fGe .f64 a0 13875379345695965184) = false := by simpa using c2
    clear c2
    obtain rfl := Option.some.inj H
    go_enter Try.func69, Try.ntmps69
    go_wp2
    go_ret
    exact ⟨by first | rfl | (simp; done) | (simp [*]; done), by repeat (first | exact Drawn0.refl _ | apply Drawn0.step)⟩

/-! ### impl_isMissing: function 76 -/
def impl_isMissing.f (a0 : Nat) : Option (Bool) := some (fNe .f64 a0 a0)
set_option maxHeartbeats 8000000 in
set_option maxRecDepth 100000 in
theorem impl_isMissing.calls (a0 : Nat) (r : Bool) (w : World) (h : impl_isMissing.f a0 = some r) :
    Calls Try.prog 76 #[.float .f64 a0] w fun e w' => e = .returned (.bool r) ∧ Drawn0 w w' := by
  have H : (some (fNe .f64 a0 a0)) = some r := h
  clear h
  obtain rfl := Option.some.inj H
  go_enter Try.func76, Try.ntmps76
  go_wp2
  go_ret
  exact ⟨by first | rfl | (simp; done) | (simp [*]; done), by repeat (first | exact Drawn0.refl _ | apply Drawn0.step)⟩

/-! ### impl_isTrace_1: function 94 -/
def impl_isTrace_1.f (a0 : Nat) : Option (Bool) := (impl_isReading.f a0).bind fun t128 => (if t128 = true then (some false) else ((impl_isMissing.f a0).bind fun t129 => (some (!t129))))
set_option maxHeartbeats 8000000 in
set_option maxRecDepth 100000 in
theorem impl_isTrace_1.calls (a0 : Nat) (r : Bool) (w : World) (h : impl_isTrace_1.f a0 = some r) :
    Calls Try.prog 94 #[.float .f64 a0] w fun e w' => e = .returned (.bool r) ∧ Drawn0 w w' := by
  have H : ((impl_isReading.f a0).bind fun t128 => (if t128 = true then (some false) else ((impl_isMissing.f a0).bind fun t129 => (some (!t129))))) = some r := h
  clear h
  replace H := Option.bind_eq_some_iff.mp H
  obtain ⟨t128, A20, H⟩ := H
  replace H : (if t128 = true then (some false) else ((impl_isMissing.f a0).bind fun t129 => (some (!t129)))) = some r := H
  have A2 := Aside0.mk A20
  clear A20
  by_cases c3 : t128 = true
  · subst c3
    have H1 : (some false) = some r := by rw [if_pos rfl] at H; exact H
    clear H
    have H := H1
    clear H1
    obtain rfl := Option.some.inj H
    go_enter Try.func94, Try.ntmps94
    go_wp2_with (first | ((with_reducible refine gate_callee (f := 69) rfl ?_); refine goesL_ (some 4) rfl rfl Try.func69 (by kernel_rfl) rfl #[.float .f64 a0] rfl (by (try simp only [List.map_toArray, List.map_cons, List.map_nil]); first | done | rfl | (simp only [List.length_drop, List.length_take]; rfl)) ?_; (with_reducible refine (impl_isReading.calls a0 true _ A2.out).mono ?_); rintro e w' ⟨rfl, ⟨nd, rfl⟩⟩; refine ⟨_, rfl, ?_⟩))
    go_ret
    exact ⟨by first | rfl | (simp; done) | (simp [*]; done), by repeat (first | exact Drawn0.refl _ | apply Drawn0.step)⟩
  · replace c3 := Bool.eq_false_iff.mpr c3
    subst c3
    have H1 : ((impl_isMissing.f a0).bind fun t129 => (some (!t129))) = some r := by rw [if_neg (show ¬ (false = true) by decide)] at H; exact H
    clear H
    have H := H1
    clear H1
    replace H := Option.bind_eq_some_iff.mp H
    obtain ⟨t129, A40, H⟩ := H
    replace H : (some (!t129)) = some r := H
    have A4 := Aside0.mk A40
    clear A40
    obtain rfl := Option.some.inj H
    go_enter Try.func94, Try.ntmps94
    go_wp2_with (first | ((with_reducible refine gate_callee (f := 69) rfl ?_); refine goesL_ (some 4) rfl rfl Try.func69 (by kernel_rfl) rfl #[.float .f64 a0] rfl (by (try simp only [List.map_toArray, List.map_cons, List.map_nil]); first | done | rfl | (simp only [List.length_drop, List.length_take]; rfl)) ?_; (with_reducible refine (impl_isReading.calls a0 false _ A2.out).mono ?_); rintro e w' ⟨rfl, ⟨nd, rfl⟩⟩; refine ⟨_, rfl, ?_⟩) | (go_at_call 76; (with_reducible refine (impl_isMissing.calls a0 t129 _ A4.out).mono ?_); rintro e w' ⟨rfl, ⟨nd, rfl⟩⟩))
    go_ret
    exact ⟨by first | rfl | (simp; done) | (simp [*]; done), by repeat (first | exact Drawn0.refl _ | apply Drawn0.step)⟩

/-! ### slices_IndexFunc_at_impl_isTrace_1: function 500001 -/
def slices_IndexFunc_at_impl_isTrace_1.l0 : Nat → List Nat → Int → Int → Option (Int)
  | 0, _, _, _ => none
  | k + 1, x0, x7, x8 => if x8 < x7 then (if 0 ≤ x8 then (if x8 < (x0.length : Int) then ((impl_isTrace_1.f (rdOf (0 : Nat) x0 x8)).bind fun t131 => (if t131 = true then (some x8) else (slices_IndexFunc_at_impl_isTrace_1.l0 k x0 x7 (wrap64 (x8 + 1))))) else (none)) else (none)) else (some (-1))
def slices_IndexFunc_at_impl_isTrace_1.f (k : Nat) (l0 : List Nat)  : Option (Int) := slices_IndexFunc_at_impl_isTrace_1.l0 k l0 (l0.length : Int) 0
theorem slices_IndexFunc_at_impl_isTrace_1.mono_l : ∀ k, (∀ y0 y1 y2, LeO (slices_IndexFunc_at_impl_isTrace_1.l0 k y0 y1 y2) (slices_IndexFunc_at_impl_isTrace_1.l0 (k + 1) y0 y1 y2))
  | 0 => fun _ _ _ r h => by simp [slices_IndexFunc_at_impl_isTrace_1.l0] at h
  | k + 1 => by
    have ih0 := slices_IndexFunc_at_impl_isTrace_1.mono_l k
    · intro y0 y1 y2
      unfold slices_IndexFunc_at_impl_isTrace_1.l0
      repeat' first
      | (with_reducible exact ih0 _ _ _)
      | (with_reducible exact LeO.refl _)
      | (with_reducible exact LeO.none _)
      | (with_reducible refine LeO.ite ?_ ?_)
      | (with_reducible refine LeO.bind ?_ (fun _ => ?_))
      | exact ih0 _ _ _
      | exact LeO.none _
      | refine LeO.ite ?_ ?_
      | refine LeO.bind ?_ (fun _ => ?_)
theorem slices_IndexFunc_at_impl_isTrace_1.mono : ∀ a0 k, LeO (slices_IndexFunc_at_impl_isTrace_1.f k a0) (slices_IndexFunc_at_impl_isTrace_1.f (k + 1) a0) := by
  intro a0 k
  have ih0 := slices_IndexFunc_at_impl_isTrace_1.mono_l k
  unfold slices_IndexFunc_at_impl_isTrace_1.f
  repeat' first
      | (with_reducible exact ih0 _ _ _)
      | (with_reducible exact LeO.refl _)
      | (with_reducible exact LeO.none _)
      | (with_reducible refine LeO.ite ?_ ?_)
      | (with_reducible refine LeO.bind ?_ (fun _ => ?_))
      | exact ih0 _ _ _
      | exact LeO.none _
      | refine LeO.ite ?_ ?_
      | refine LeO.bind ?_ (fun _ => ?_)
set_option maxHeartbeats 8000000 in
set_option maxRecDepth 100000 in
theorem slices_IndexFunc_at_impl_isTrace_1.calls (k : Nat) (A0 : Option Addr) (c0 : Nat) (l0 : List Nat)  (r : Int) (w : World) (hr0 : Kd.C (Opens.flt .f64) w A0 l0.length l0) (hc0 : l0.length ≤ c0) (h : slices_IndexFunc_at_impl_isTrace_1.f k l0 = some r) :
    Calls Try.prog 104 #[.slice A0 l0.length c0, .func (.func 94) #[] #[]] w fun e w' => e = .returned (.int .i64 r) ∧ Below w.heap.size w w' := by
  have HR0 := Aside0.mk hr0
  have HC0 := Aside0.mk hc0
  clear hr0 hc0
  have HB := Aside0.mk (Below.refl w.heap.size w)
  have H : (slices_IndexFunc_at_impl_isTrace_1.l0 k l0 (l0.length : Int) 0) = some r := h
  clear h
  have H' := Aside0.mk H
  clear H
  go_enter Try.func104, Try.ntmps104
  go_wp2
  go_loopg [8] k (fun kq v8 w' => ∃ (x8_1 : Int), v8 = .int .i64 x8_1 ∧ Aside0 (slices_IndexFunc_at_impl_isTrace_1.l0 kq l0 (l0.length : Int) x8_1 = some r) ∧ Aside0 (kq ≤ k) ∧ Aside0 (Below w.heap.size w w'))
  case atStart => exact ⟨(0), (by first | rfl | (simp; done) | (simp [*]; done)), H', ⟨Nat.le_refl _⟩, ⟨by repeat (first | (with_reducible first | exact HB.out | apply below_alloc | apply pw_below_drewN | apply below_drew1) | exact HB.out)⟩⟩
  case round =>
    clear H'
    try clear c1
    try clear p2
    obtain ⟨x8_1, rfl, HA, HK1, HB⟩ := hrel
    cases gk with
    | zero => exact absurd HA.out (by simp [slices_IndexFunc_at_impl_isTrace_1.l0])
    | succ k1 =>
      have H := HA.out
      clear HA
      simp only [slices_IndexFunc_at_impl_isTrace_1.l0] at H
      by_cases c3 : x8_1 < (l0.length : Int)
      · rw [if_pos c3] at H
        have c3b0 : decide (x8_1 < (l0.length : Int)) = true := decide_eq_true c3
        clear c3
        by_cases c4 : 0 ≤ x8_1
        · rw [if_pos c4] at H
          have c4b0 : decide (0 ≤ x8_1) = true := decide_eq_true c4
          clear c4
          by_cases c5 : x8_1 < (l0.length : Int)
          · rw [if_pos c5] at H
            have c5b0 : decide (x8_1 < (l0.length : Int)) = true := decide_eq_true c5
            clear c5
            replace H := Option.bind_eq_some_iff.mp H
            obtain ⟨t131, A60, H⟩ := H
            replace H : (if t131 = true then (some x8_1) else (slices_IndexFunc_at_impl_isTrace_1.l0 k1 l0 (l0.length : Int) (wrap64 (x8_1 + 1)))) = some r := H
            have A6 := Aside0.mk A60
            clear A60
            by_cases c7 : t131 = true
            · subst c7
              have H1 : (some x8_1) = some r := by rw [if_pos rfl] at H; exact H
              clear H
              have H := H1
              clear H1
              obtain rfl := Option.some.inj H
              have p130 : 0 ≤ (x8_1 : Int) := of_decide_eq_true (by first | (with_reducible assumption) | assumption)
              have q130 : x8_1 < (l0.length : Int) := of_decide_eq_true (by first | (with_reducible assumption) | assumption)
              obtain ⟨ad130, e130, hx130_0⟩ := Opens.at_flt HR0.out x8_1 p130 q130
              cases e130
              replace hx130_0 := (HB.out.cell (World.block_lt_of_cell? w _ hx130_0)).trans hx130_0
              replace p130 := eq_true p130
              replace q130 := eq_true q130
              go_wp2_with (first | (go_at_call 94; (with_reducible refine (impl_isTrace_1.calls (rdOf (0 : Nat) l0 x8_1) true _ A6.out).mono ?_); rintro e w' ⟨rfl, ⟨nd, rfl⟩⟩))
              go_ret
              exact ⟨by first | rfl | (simp [errW_none, errW_some] <;> rfl) | (simp [*, errW_none, errW_some] <;> rfl), by repeat (first | (with_reducible first | exact HB.out | apply below_alloc | apply pw_below_drewN | apply below_drew1) | exact HB.out)⟩
            · replace c7 := Bool.eq_false_iff.mpr c7
              subst c7
              have H1 : (slices_IndexFunc_at_impl_isTrace_1.l0 k1 l0 (l0.length : Int) (wrap64 (x8_1 + 1))) = some r := by rw [if_neg (show ¬ (false = true) by decide)] at H; exact H
              clear H
              have H := H1
              clear H1
              have H' := Aside0.mk H
              clear H
              have p130 : 0 ≤ (x8_1 : Int) := of_decide_eq_true (by first | (with_reducible assumption) | assumption)
              have q130 : x8_1 < (l0.length : Int) := of_decide_eq_true (by first | (with_reducible assumption) | assumption)
              obtain ⟨ad130, e130, hx130_0⟩ := Opens.at_flt HR0.out x8_1 p130 q130
              cases e130
              replace hx130_0 := (HB.out.cell (World.block_lt_of_cell? w _ hx130_0)).trans hx130_0
              replace p130 := eq_true p130
              replace q130 := eq_true q130
              go_wp2_with (first | (go_at_call 94; (with_reducible refine (impl_isTrace_1.calls (rdOf (0 : Nat) l0 x8_1) false _ A6.out).mono ?_); rintro e w' ⟨rfl, ⟨nd, rfl⟩⟩))
              go_roundg k1
              case measure => have := HK1.out; omega
              case rel => exact ⟨(wrap64 (x8_1 + 1)), (by first | rfl | (simp; done) | (simp [*]; done)), H', ⟨by have := HK1.out; omega⟩, ⟨by repeat (first | (with_reducible first | exact HB.out | apply below_alloc | apply pw_below_drewN | apply below_drew1) | exact HB.out)⟩⟩
          · rw [if_neg c5] at H
            exact absurd H (by simp)
        · rw [if_neg c4] at H
          exact absurd H (by simp)
      · rw [if_neg c3] at H
        have c3b0 : decide (x8_1 < (l0.length : Int)) = false := decide_eq_false c3
        clear c3
        obtain rfl := Option.some.inj H
        go_wp2
        go_ret
        exact ⟨by first | rfl | (simp [errW_none, errW_some] <;> rfl) | (simp [*, errW_none, errW_some] <;> rfl), by repeat (first | (with_reducible first | exact HB.out | apply below_alloc | apply pw_below_drewN | apply below_drew1) | exact HB.out)⟩

/-! ### slices_ContainsFunc_at_impl_isTrace_1: function 500000 -/
def slices_ContainsFunc_at_impl_isTrace_1.f (k : Nat) (l0 : List Nat)  : Option (Bool) := (slices_IndexFunc_at_impl_isTrace_1.f k l0).bind fun t132 => (some (decide (t132 ≥ 0)))
theorem slices_ContainsFunc_at_impl_isTrace_1.mono : ∀ a0 k, LeO (slices_ContainsFunc_at_impl_isTrace_1.f k a0) (slices_ContainsFunc_at_impl_isTrace_1.f (k + 1) a0) := by
  intro a0 k
  unfold slices_ContainsFunc_at_impl_isTrace_1.f
  repeat' first
      | (with_reducible exact slices_IndexFunc_at_impl_isTrace_1.mono _ _)
      | (with_reducible exact LeO.refl _)
      | (with_reducible exact LeO.none _)
      | (with_reducible refine LeO.ite ?_ ?_)
      | (with_reducible refine LeO.bind ?_ (fun _ => ?_))
      | exact slices_IndexFunc_at_impl_isTrace_1.mono _ _
      | exact LeO.none _
      | refine LeO.ite ?_ ?_
      | refine LeO.bind ?_ (fun _ => ?_)
set_option maxHeartbeats 8000000 in
set_option maxRecDepth 100000 in
theorem slices_ContainsFunc_at_impl_isTrace_1.calls (k : Nat) (A0 : Option Addr) (c0 : Nat) (l0 : List Nat)  (r : Bool) (w : World) (hr0 : Kd.C (Opens.flt .f64) w A0 l0.length l0) (hc0 : l0.length ≤ c0) (h : slices_ContainsFunc_at_impl_isTrace_1.f k l0 = some r) :
    Calls Try.prog 93 #[.slice A0 l0.length c0, .func (.func 94) #[] #[]] w fun e w' => e = .returned (.bool r) ∧ Below w.heap.size w w' := by
  have HR0 := Aside0.mk hr0
  have HC0 := Aside0.mk hc0
  clear hr0 hc0
  have HB := Aside0.mk (Below.refl w.heap.size w)
  have H : ((slices_IndexFunc_at_impl_isTrace_1.f k l0).bind fun t132 => (some (decide (t132 ≥ 0)))) = some r := h
  clear h
  replace H := Option.bind_eq_some_iff.mp H
  obtain ⟨t132, A30, H⟩ := H
  replace H : (some (decide (t132 ≥ 0))) = some r := H
  have A3 := Aside0.mk A30
  clear A30
  obtain rfl := Option.some.inj H
  go_enter Try.func93, Try.ntmps93
  go_wp2_with (first | ((with_reducible refine gate_callee (f := 104) rfl ?_); refine goesL_ (some 7) rfl rfl Try.func104 (by kernel_rfl) rfl #[.slice A0 l0.length c0, .func (.func 94) #[] #[]] rfl (by (try simp only [List.map_toArray, List.map_cons, List.map_nil]); first | done | rfl | (simp only [List.length_drop, List.length_take]; rfl)) ?_; (with_reducible refine (slices_IndexFunc_at_impl_isTrace_1.calls k _ _ l0 t132 _ ?side1 ?side2 A3.out).mono ?_); (case side1 => repeat (first | exact HR0.out | (with_reducible refine Kd.C_alloc ?_ _) | (with_reducible refine Kd.C_drewN ?_ _) | (with_reducible refine Kd.C_drew ?_))); (case side2 => exact HC0.out); rintro e w4 ⟨rfl, hb⟩; refine ⟨_, rfl, ?_⟩; have n0_ := Aside0.mk (below_step (by repeat (first | (with_reducible first | exact HB.out | apply below_alloc | apply pw_below_drewN | apply below_drew1) | exact HB.out)) hb); clear HB; have HB := n0_; clear n0_; (try clear hb); (try clear hb2); (try clear hk); (try clear hi)))
  go_ret
  exact ⟨by first | rfl | (simp [errW_none, errW_some] <;> rfl) | (simp [*, errW_none, errW_some] <;> rfl), by repeat (first | (with_reducible first | exact HB.out | apply below_alloc | apply pw_below_drewN | apply below_drew1) | exact HB.out)⟩

/-! ### impl_isTrace: function 68 -/
def impl_isTrace.f (k : Nat) (l0 : List Nat) : Option (Bool) := if (l0.length : Int) ≤ 200 then ((slices_ContainsFunc_at_impl_isTrace_1.f k l0).bind fun t133 => (some (!t133))) else (some false)
theorem impl_isTrace.mono : ∀ a0 k, LeO (impl_isTrace.f k a0) (impl_isTrace.f (k + 1) a0) := by
  intro a0 k
  unfold impl_isTrace.f
  repeat' first
      | (with_reducible exact slices_ContainsFunc_at_impl_isTrace_1.mono _ _)
      | (with_reducible exact LeO.refl _)
      | (with_reducible exact LeO.none _)
      | (with_reducible refine LeO.ite ?_ ?_)
      | (with_reducible refine LeO.bind ?_ (fun _ => ?_))
      | exact slices_ContainsFunc_at_impl_isTrace_1.mono _ _
      | exact LeO.none _
      | refine LeO.ite ?_ ?_
      | refine LeO.bind ?_ (fun _ => ?_)
set_option maxHeartbeats 8000000 in
set_option maxRecDepth 100000 in
theorem impl_isTrace.calls (k : Nat) (A0 : Option Addr) (c0 : Nat) (l0 : List Nat) (r : Bool) (w : World) (hr0 : Kd.C (Opens.flt .f64) w A0 l0.length l0) (hc0 : l0.length ≤ c0) (h : impl_isTrace.f k l0 = some r) :
    Calls Try.prog 68 #[.slice A0 l0.length c0] w fun e w' => e = .returned (.bool r) ∧ Below w.heap.size w w' := by
  have HR0 := Aside0.mk hr0
  have HC0 := Aside0.mk hc0
  clear hr0 hc0
  have HB := Aside0.mk (Below.refl w.heap.size w)
  have H : (if (l0.length : Int) ≤ 200 then ((slices_ContainsFunc_at_impl_isTrace_1.f k l0).bind fun t133 => (some (!t133))) else (some false)) = some r := h
  clear h
  by_cases c2 : (l0.length : Int) ≤ 200
  · rw [if_pos c2] at H
    have c2b0 : decide ((l0.length : Int) ≤ 200) = true := decide_eq_true c2
    have c2b1 : decide (l0.length ≤ 200) = true := decide_eq_true (by omega)
    clear c2
    replace H := Option.bind_eq_some_iff.mp H
    obtain ⟨t133, A30, H⟩ := H
    replace H : (some (!t133)) = some r := H
    have A3 := Aside0.mk A30
    clear A30
    obtain rfl := Option.some.inj H
    go_enter Try.func68, Try.ntmps68
    go_wp2_with (first | (go_at_call 93; (with_reducible refine (slices_ContainsFunc_at_impl_isTrace_1.calls k _ _ l0 t133 _ ?side1 ?side2 A3.out).mono ?_); (case side1 => repeat (first | exact HR0.out | (with_reducible refine Kd.C_alloc ?_ _) | (with_reducible refine Kd.C_drewN ?_ _) | (with_reducible refine Kd.C_drew ?_))); (case side2 => exact HC0.out); rintro e w4 ⟨rfl, hb⟩; have n0_ := Aside0.mk (below_step (by repeat (first | (with_reducible first | exact HB.out | apply below_alloc | apply pw_below_drewN | apply below_drew1) | exact HB.out)) hb); clear HB; have HB := n0_; clear n0_; (try clear hb); (try clear hb2); (try clear hk); (try clear hi)))
    go_ret
    exact ⟨by first | rfl | (simp [errW_none, errW_some] <;> rfl) | (simp [*, errW_none, errW_some] <;> rfl), by repeat (first | (with_reducible first | exact HB.out | apply below_alloc | apply pw_below_drewN | apply below_drew1) | exact HB.out)⟩
  · rw [if_neg c2] at H
    have c2b0 : decide ((l0.length : Int) ≤ 200) = false := decide_eq_false c2
    have c2b1 : decide (l0.length ≤ 200) = false := decide_eq_false (by omega)
    clear c2
    obtain rfl := Option.some.inj H
    go_enter Try.func68, Try.ntmps68
    go_wp2
    go_ret
    exact ⟨by first | rfl | (simp [errW_none, errW_some] <;> rfl) | (simp [*, errW_none, errW_some] <;> rfl), by repeat (first | (with_reducible first | exact HB.out | apply below_alloc | apply pw_below_drewN | apply below_drew1) | exact HB.out)⟩

end Go.Proofs.Ytdnahjgboabdhaa.H
