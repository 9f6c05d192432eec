-- made by pp.py (wip/tools) out of the translation; Lean checks it
import Derived.Test.YtdgaaoeicijemaaG0
import Derived.Test.YtdgaaoeicijemaaG1
namespace Go.Proofs.Ytdgaaoeicijemaa.G
open Go.RowKit Go.Proofs.YtdgaaoeicijemaaW.PrintWords Go.Proofs.YtdgaaoeicijemaaW.PrintLast Go.Proofs.YtdgaaoeicijemaaW.PrintMore
attribute [local go_sem] max2_int min2_int max_two min_two max_three min_three max_four min_four   -- for this text's walks alone
set_option linter.unusedVariables false
set_option linter.unusedSimpArgs false

/-! ### impl_WatchOf: function 28 -/
mutual
def impl_WatchOf.l0 : Nat → Nat → List Nat → Int → Int → Int → Int → Nat → Nat → Nat → Option (Int × Int × Nat × Nat × Nat × Int)
  | 0, _, _, _, _, _, _, _, _, _ => none
  | k + 1, x5, x19, x20, x21, x124000, x124001, x124002, x124003, x124004 => if x21 < x20 then (if 0 ≤ x21 then (if x21 < (x19.length : Int) then ((impl_isMissing.f (rdOf (0 : Nat) x19 x21)).bind fun t127 => (if t127 = true then (impl_WatchOf.l0 k x5 x19 x20 (wrap64 (x21 + 1)) x124000 (wrap64 (x124001 + 1)) x124002 x124003 x124004) else (if x124000 = 0 then (impl_WatchOf.j1 k x5 (rdOf (0 : Nat) x19 x21) x19 x20 x21 true x124000 x124001 x124002 x124003 x124004) else (impl_WatchOf.j1 k x5 (rdOf (0 : Nat) x19 x21) x19 x20 x21 (fLt .f64 (rdOf (0 : Nat) x19 x21) x124003) x124000 x124001 x124002 x124003 x124004)))) else (none)) else (none)) else (if x124000 = 0 then (some (0, 0, 0, 0, 0, 8)) else ((floatBits .quo .f64 x5 (floatOfInt .f64 x124000)).bind fun t125 => (some (x124000, x124001, t125, x124003, x124004, 0))))
def impl_WatchOf.j1 : Nat → Nat → Nat → List Nat → Int → Int → Bool → Int → Int → Nat → Nat → Nat → Option (Int × Int × Nat × Nat × Nat × Int)
  | 0, _, _, _, _, _, _, _, _, _, _, _ => none
  | k + 1, x5, x7, x19, x20, x21, x39, x124000, x124001, x124002, x124003, x124004 => if x39 = true then (if x124000 = 0 then ((floatBits .add .f64 x5 x7).bind fun t128 => (impl_WatchOf.l0 k t128 x19 x20 (wrap64 (x21 + 1)) (wrap64 (x124000 + 1)) x124001 x124002 x7 x7)) else (if (fGt .f64 x7 x124004) = true then ((floatBits .add .f64 x5 x7).bind fun t129 => (impl_WatchOf.l0 k t129 x19 x20 (wrap64 (x21 + 1)) (wrap64 (x124000 + 1)) x124001 x124002 x7 x7)) else ((floatBits .add .f64 x5 x7).bind fun t130 => (impl_WatchOf.l0 k t130 x19 x20 (wrap64 (x21 + 1)) (wrap64 (x124000 + 1)) x124001 x124002 x7 x124004)))) else (if x124000 = 0 then ((floatBits .add .f64 x5 x7).bind fun t131 => (impl_WatchOf.l0 k t131 x19 x20 (wrap64 (x21 + 1)) (wrap64 (x124000 + 1)) x124001 x124002 x124003 x7)) else (if (fGt .f64 x7 x124004) = true then ((floatBits .add .f64 x5 x7).bind fun t132 => (impl_WatchOf.l0 k t132 x19 x20 (wrap64 (x21 + 1)) (wrap64 (x124000 + 1)) x124001 x124002 x124003 x7)) else ((floatBits .add .f64 x5 x7).bind fun t133 => (impl_WatchOf.l0 k t133 x19 x20 (wrap64 (x21 + 1)) (wrap64 (x124000 + 1)) x124001 x124002 x124003 x124004))))
end
def impl_WatchOf.f (k : Nat) (l0 : List Nat) : Option (Int × Int × Nat × Nat × Nat × Int) := (impl_isList_float64.f l0).bind fun t121 => (if t121 = true then ((impl_isTrace.f k l0).bind fun t122 => (if t122 = true then (impl_WatchOf.l0 k 0 l0 (l0.length : Int) 0 0 0 0 0 0) else (some (0, 0, 0, 0, 0, 1)))) else (some (0, 0, 0, 0, 0, 2)))
theorem impl_WatchOf.mono_l : ∀ k, (∀ y0 y1 y2 y3 y4 y5 y6 y7 y8, LeO (impl_WatchOf.l0 k y0 y1 y2 y3 y4 y5 y6 y7 y8) (impl_WatchOf.l0 (k + 1) y0 y1 y2 y3 y4 y5 y6 y7 y8)) ∧ (∀ y0 y1 y2 y3 y4 y5 y6 y7 y8 y9 y10, LeO (impl_WatchOf.j1 k y0 y1 y2 y3 y4 y5 y6 y7 y8 y9 y10) (impl_WatchOf.j1 (k + 1) y0 y1 y2 y3 y4 y5 y6 y7 y8 y9 y10))
  | 0 => ⟨fun _ _ _ _ _ _ _ _ _ r h => by simp [impl_WatchOf.l0] at h, fun _ _ _ _ _ _ _ _ _ _ _ r h => by simp [impl_WatchOf.j1] at h⟩
  | k + 1 => by
    obtain ⟨ih0, ih1⟩ := impl_WatchOf.mono_l k
    refine ⟨?_, ?_⟩
    · intro y0 y1 y2 y3 y4 y5 y6 y7 y8
      unfold impl_WatchOf.l0
      repeat' first
      | (with_reducible exact ih0 _ _ _ _ _ _ _ _ _)
      | (with_reducible exact ih1 _ _ _ _ _ _ _ _ _ _ _)
      | (with_reducible exact impl_isTrace.mono _ _)
      | (with_reducible exact LeO.refl _)
      | (with_reducible exact LeO.none _)
      | (with_reducible refine LeO.ite ?_ ?_)
      | (with_reducible refine LeO.bind ?_ (fun _ => ?_))
      | exact ih0 _ _ _ _ _ _ _ _ _
      | exact ih1 _ _ _ _ _ _ _ _ _ _ _
      | exact impl_isTrace.mono _ _
      | exact LeO.none _
      | refine LeO.ite ?_ ?_
      | refine LeO.bind ?_ (fun _ => ?_)
    · intro y0 y1 y2 y3 y4 y5 y6 y7 y8 y9 y10
      unfold impl_WatchOf.j1
      repeat' first
      | (with_reducible exact ih0 _ _ _ _ _ _ _ _ _)
      | (with_reducible exact ih1 _ _ _ _ _ _ _ _ _ _ _)
      | (with_reducible exact impl_isTrace.mono _ _)
      | (with_reducible exact LeO.refl _)
      | (with_reducible exact LeO.none _)
      | (with_reducible refine LeO.ite ?_ ?_)
      | (with_reducible refine LeO.bind ?_ (fun _ => ?_))
      | exact ih0 _ _ _ _ _ _ _ _ _
      | exact ih1 _ _ _ _ _ _ _ _ _ _ _
      | exact impl_isTrace.mono _ _
      | exact LeO.none _
      | refine LeO.ite ?_ ?_
      | refine LeO.bind ?_ (fun _ => ?_)
theorem impl_WatchOf.mono : ∀ a0 k, LeO (impl_WatchOf.f k a0) (impl_WatchOf.f (k + 1) a0) := by
  intro a0 k
  obtain ⟨ih0, ih1⟩ := impl_WatchOf.mono_l k
  unfold impl_WatchOf.f
  repeat' first
      | (with_reducible exact ih0 _ _ _ _ _ _ _ _ _)
      | (with_reducible exact ih1 _ _ _ _ _ _ _ _ _ _ _)
      | (with_reducible exact impl_isTrace.mono _ _)
      | (with_reducible exact LeO.refl _)
      | (with_reducible exact LeO.none _)
      | (with_reducible refine LeO.ite ?_ ?_)
      | (with_reducible refine LeO.bind ?_ (fun _ => ?_))
      | exact ih0 _ _ _ _ _ _ _ _ _
      | exact ih1 _ _ _ _ _ _ _ _ _ _ _
      | exact impl_isTrace.mono _ _
      | exact LeO.none _
      | refine LeO.ite ?_ ?_
      | refine LeO.bind ?_ (fun _ => ?_)
set_option maxHeartbeats 8000000 in
set_option maxRecDepth 100000 in
theorem impl_WatchOf.calls (k : Nat) (A0 : Option Addr) (c0 : Nat) (l0 : List Nat) (r1 : Int) (r2 : Int) (r3 : Nat) (r4 : Nat) (r5 : Nat) (r6 : Int) (w : World) (hr0 : Kd.C (Opens.flt .f64) w A0 l0.length l0) (hc0 : l0.length ≤ c0) (h : impl_WatchOf.f k l0 = some (r1, r2, r3, r4, r5, r6)) :
    Calls Try.prog 28 #[.slice A0 l0.length c0] w fun e w' => e = .returned (.tuple #[.agg #[.int .i64 r1, .int .i64 r2, .float .f64 r3, .float .f64 r4, .float .f64 r5], .int .i64 r6]) ∧ Below w.heap.size w w' := by
  have hu66 := Try.underlying66
  have HR0 := Aside0.mk hr0
  have HC0 := Aside0.mk hc0
  clear hr0 hc0
  have HB := Aside0.mk (Below.refl w.heap.size w)
  have H : ((impl_isList_float64.f l0).bind fun t121 => (if t121 = true then ((impl_isTrace.f k l0).bind fun t122 => (if t122 = true then (impl_WatchOf.l0 k 0 l0 (l0.length : Int) 0 0 0 0 0 0) else (some (0, 0, 0, 0, 0, 1)))) else (some (0, 0, 0, 0, 0, 2)))) = some (r1, r2, r3, r4, r5, r6) := h
  clear h
  replace H := Option.bind_eq_some_iff.mp H
  obtain ⟨t121, A20, H⟩ := H
  replace H : (if t121 = true then ((impl_isTrace.f k l0).bind fun t122 => (if t122 = true then (impl_WatchOf.l0 k 0 l0 (l0.length : Int) 0 0 0 0 0 0) else (some (0, 0, 0, 0, 0, 1)))) else (some (0, 0, 0, 0, 0, 2))) = some (r1, r2, r3, r4, r5, r6) := H
  have A2 := Aside0.mk A20
  clear A20
  by_cases c3 : t121 = true
  · subst c3
    have H1 : ((impl_isTrace.f k l0).bind fun t122 => (if t122 = true then (impl_WatchOf.l0 k 0 l0 (l0.length : Int) 0 0 0 0 0 0) else (some (0, 0, 0, 0, 0, 1)))) = some (r1, r2, r3, r4, r5, r6) := by rw [if_pos rfl] at H; exact H
    clear H
    have H := H1
    clear H1
    replace H := Option.bind_eq_some_iff.mp H
    obtain ⟨t122, A40, H⟩ := H
    replace H : (if t122 = true then (impl_WatchOf.l0 k 0 l0 (l0.length : Int) 0 0 0 0 0 0) else (some (0, 0, 0, 0, 0, 1))) = some (r1, r2, r3, r4, r5, r6) := H
    have A4 := Aside0.mk A40
    clear A40
    by_cases c5 : t122 = true
    · subst c5
      have H1 : (impl_WatchOf.l0 k 0 l0 (l0.length : Int) 0 0 0 0 0 0) = some (r1, r2, r3, r4, r5, r6) := by rw [if_pos rfl] at H; exact H
      clear H
      have H := H1
      clear H1
      have H' := Aside0.mk H
      clear H
      go_enter Try.func28, Try.ntmps28
      go_wp2_with (first | ((with_reducible refine gate_dst (N := 2) rfl ?_); refine box_event ?hg (N := 2) ?hd (cs := #[.int .i64 0, .int .i64 0, .float .f64 0, .float .f64 0, .float .f64 0]) (t := 66) ?hr ?_; (case hd => rfl); (case hg => rfl); (case hr => first | (go_simp; done) | (go_simp; rfl)); intro gb120 hg w6 hbox hb; have n0_ := Aside0.mk (below_step (by repeat (first | (with_reducible first | exact HB.out | apply below_alloc | apply pw_below_drewN | apply below_drew1) | exact HB.out)) hb); have n1_ := Aside0.mk (hbox); have n2_ := Aside0.mk ((by rw [hg]; exact (below_size (by repeat (first | (with_reducible first | exact HB.out | apply below_alloc | apply pw_below_drewN | apply below_drew1) | exact HB.out))) : w.heap.size ≤ gb120)); have n3_ := Aside0.mk ((by rw [hg]; exact (below_size (by repeat (first | (with_reducible first | exact HB.out | apply below_alloc | apply pw_below_drewN | apply below_drew1) | exact HB.out))) : w.heap.size ≤ gb120)); clear HB; have HB := n0_; have BK120 := n1_; have GW120 := n2_; have GE120 := n3_; clear n0_ n1_ n2_ n3_; clear hb hbox hg) | ((with_reducible refine gate_callee (f := 82) rfl ?_); refine goesL_ (some 10) rfl rfl Try.func82 (by kernel_rfl) rfl #[.slice A0 l0.length c0] rfl (by (try simp only [List.map_toArray, List.map_cons, List.map_nil]); first | done | rfl | (simp only [List.length_drop, List.length_take]; rfl)) ?_; (with_reducible refine (impl_isList_float64.calls _ _ l0 true _ ?side1 ?side2 A2.out).mono ?_); (case side1 => repeat (first | exact (Kd.C_below HR0.out HB.out) | (with_reducible refine Kd.C_alloc ?_ _) | (with_reducible refine Kd.C_drewN ?_ _) | (with_reducible refine Kd.C_drew ?_))); (case side2 => exact HC0.out); rintro e w' ⟨rfl, ⟨nd, rfl⟩⟩; refine ⟨_, rfl, ?_⟩; (try (rw [drewN_self w6]; generalize hq_ : World.drewN w6 _ = w6; have n0_ : Aside0 (w6.heap[gb120]? = some (.cells #[.int .i64 0, .int .i64 0, .float .f64 0, .float .f64 0, .float .f64 0] 66 (0, 0))) := ⟨by rw [← hq_]; exact (by (with_reducible repeat (first | refine blk_drewN ?_ _ | refine blk_drew ?_ | refine blk_alloc ?_ _)); exact BK120.out)⟩; have n1_ : Aside0 (Below w.heap.size w w6) := ⟨by rw [← hq_]; exact (by repeat (first | (with_reducible first | exact HB.out | apply below_alloc | apply pw_below_drewN | apply below_drew1 | refine below_set ?_ GE120.out) | exact HB.out))⟩; clear BK120 HB hq_; have BK120 := n0_; have HB := n1_; clear n0_ n1_))) | ((with_reducible refine gate_callee (f := 83) rfl ?_); refine goesL_ (some 15) rfl rfl Try.func83 (by kernel_rfl) rfl #[.slice A0 l0.length c0] rfl (by (try simp only [List.map_toArray, List.map_cons, List.map_nil]); first | done | rfl | (simp only [List.length_drop, List.length_take]; rfl)) ?_; (with_reducible refine (impl_isTrace.calls k _ _ l0 true _ ?side1 ?side2 A4.out).mono ?_); (case side1 => repeat (first | exact (Kd.C_below HR0.out HB.out) | (with_reducible refine Kd.C_alloc ?_ _) | (with_reducible refine Kd.C_drewN ?_ _) | (with_reducible refine Kd.C_drew ?_))); (case side2 => exact HC0.out); rintro e w7 ⟨rfl, hb⟩; refine ⟨_, rfl, ?_⟩; have n0_ := Aside0.mk (blk_below (g := gb120) (o := .cells #[.int .i64 0, .int .i64 0, .float .f64 0, .float .f64 0, .float .f64 0] 66 (0, 0)) (by (with_reducible repeat (first | refine blk_drewN ?_ _ | refine blk_drew ?_ | refine blk_alloc ?_ _)); exact BK120.out) hb); have n1_ := Aside0.mk (below_step (by repeat (first | (with_reducible first | exact HB.out | apply below_alloc | apply pw_below_drewN | apply below_drew1 | refine below_set ?_ GE120.out) | exact HB.out)) hb); clear BK120; clear HB; have BK120 := n0_; have HB := n1_; clear n0_ n1_; (try clear hb); (try clear hb2); (try clear hk); (try clear hi)) | ((with_reducible refine gate_dst (N := 4) rfl ?_); refine box_event ?hg (N := 4) ?hd (cs := #[.int .i64 0, .int .i64 0, .float .f64 0, .float .f64 0, .float .f64 0]) (t := 66) ?hr ?_; (case hd => rfl); (case hg => rfl); (case hr => first | (go_simp; done) | (go_simp; rfl)); intro gb123 hg w8 hbox hb; have n0_ := Aside0.mk (blk_below (g := gb120) (o := .cells #[.int .i64 0, .int .i64 0, .float .f64 0, .float .f64 0, .float .f64 0] 66 (0, 0)) (by (with_reducible repeat (first | refine blk_drewN ?_ _ | refine blk_drew ?_ | refine blk_alloc ?_ _)); exact BK120.out) hb); have n1_ := Aside0.mk (below_step (by repeat (first | (with_reducible first | exact HB.out | apply below_alloc | apply pw_below_drewN | apply below_drew1 | refine below_set ?_ GE120.out) | exact HB.out)) hb); have n2_ := Aside0.mk (hbox); have n3_ := Aside0.mk ((by rw [hg]; exact (below_size (by repeat (first | (with_reducible first | exact HB.out | apply below_alloc | apply pw_below_drewN | apply below_drew1 | refine below_set ?_ GE120.out) | exact HB.out))) : w.heap.size ≤ gb123)); have n4_ := Aside0.mk ((by rw [hg]; exact (below_size (by repeat (first | (with_reducible first | exact HB.out | apply below_alloc | apply pw_below_drewN | apply below_drew1 | refine below_set ?_ GE120.out) | exact HB.out))) : w.heap.size ≤ gb123)); have n5_ := Aside0.mk ((by rw [hg]; exact Nat.ne_of_lt (blk_lt (g := gb120) (o := .cells #[.int .i64 0, .int .i64 0, .float .f64 0, .float .f64 0, .float .f64 0] 66 (0, 0)) (by (with_reducible repeat (first | refine blk_drewN ?_ _ | refine blk_drew ?_ | refine blk_alloc ?_ _)); exact BK120.out)) : gb120 ≠ gb123)); have n6_ := Aside0.mk ((by rw [hg]; exact Nat.ne_of_gt (blk_lt (g := gb120) (o := .cells #[.int .i64 0, .int .i64 0, .float .f64 0, .float .f64 0, .float .f64 0] 66 (0, 0)) (by (with_reducible repeat (first | refine blk_drewN ?_ _ | refine blk_drew ?_ | refine blk_alloc ?_ _)); exact BK120.out)) : gb123 ≠ gb120)); clear BK120; clear HB; have BK120 := n0_; have HB := n1_; have BK123 := n2_; have GW123 := n3_; have GE123 := n4_; have NB120_123 := n5_; have NB123_120 := n6_; clear n0_ n1_ n2_ n3_ n4_ n5_ n6_; clear hb hbox hg; have hnb9 := NB123_120.out; have hnc9 := NB120_123.out; have hcz10_0 : w8.cell? ⟨gb123, 0, none⟩ = some (.int .i64 0) := (blk_cell BK123.out 0).trans rfl; have hcz10_1 : w8.cell? ⟨gb123, 1, none⟩ = some (.int .i64 0) := (blk_cell BK123.out 1).trans rfl; have hcz10_2 : w8.cell? ⟨gb123, 2, none⟩ = some (.float .f64 0) := (blk_cell BK123.out 2).trans rfl; have hcz10_3 : w8.cell? ⟨gb123, 3, none⟩ = some (.float .f64 0) := (blk_cell BK123.out 3).trans rfl; have hcz10_4 : w8.cell? ⟨gb123, 4, none⟩ = some (.float .f64 0) := (blk_cell BK123.out 4).trans rfl; have hfz10_0 := blk_frozen BK123.out 0; have hfz10_1 := blk_frozen BK123.out 1; have hfz10_2 := blk_frozen BK123.out 2; have hfz10_3 := blk_frozen BK123.out 3; have hfz10_4 := blk_frozen BK123.out 4))
      go_loopg [5, 21] k (fun kq v5 v21 w' => ∃ (x5_1 : Nat) (x21_1 : Int) (x124000_1 : Int) (x124001_1 : Int) (x124003_1 : Nat) (x124004_1 : Nat), v5 = .float .f64 x5_1 ∧ v21 = .int .i64 x21_1 ∧ Aside0 (impl_WatchOf.l0 kq x5_1 l0 (l0.length : Int) x21_1 x124000_1 x124001_1 0 x124003_1 x124004_1 = some (r1, r2, r3, r4, r5, r6)) ∧ Aside0 (kq ≤ k) ∧ Aside0 (w'.heap[gb120]? = some (.cells #[.int .i64 0, .int .i64 0, .float .f64 0, .float .f64 0, .float .f64 0] 66 (0, 0))) ∧ Aside0 (w'.heap[gb123]? = some (.cells #[.int .i64 x124000_1, .int .i64 x124001_1, .float .f64 0, .float .f64 x124003_1, .float .f64 x124004_1] 66 (0, 0))) ∧ Aside0 (Below w.heap.size w w'))
      case atStart => exact ⟨(0), (0), (0), (0), (0), (0), (by first | rfl | (simp; done) | (simp [*]; done)), (by first | rfl | (simp; done) | (simp [*]; done)), H', ⟨Nat.le_refl _⟩, ⟨by (with_reducible repeat (first | refine blk_drewN ?_ _ | refine blk_drew ?_ | refine blk_alloc ?_ _)); refine blk_far ?_ NB120_123.out _; (with_reducible repeat (first | refine blk_drewN ?_ _ | refine blk_drew ?_ | refine blk_alloc ?_ _)); refine blk_far ?_ NB120_123.out _; (with_reducible repeat (first | refine blk_drewN ?_ _ | refine blk_drew ?_ | refine blk_alloc ?_ _)); refine blk_far ?_ NB120_123.out _; (with_reducible repeat (first | refine blk_drewN ?_ _ | refine blk_drew ?_ | refine blk_alloc ?_ _)); refine blk_far ?_ NB120_123.out _; (with_reducible repeat (first | refine blk_drewN ?_ _ | refine blk_drew ?_ | refine blk_alloc ?_ _)); refine blk_far ?_ NB120_123.out _; (with_reducible repeat (first | refine blk_drewN ?_ _ | refine blk_drew ?_ | refine blk_alloc ?_ _)); exact BK120.out⟩, ⟨by (with_reducible repeat (first | refine blk_drewN ?_ _ | refine blk_drew ?_ | refine blk_alloc ?_ _)); refine blk_put (cs := #[.int .i64 0, .int .i64 0, .float .f64 0, .float .f64 0, .float .f64 0]) ?_ 4 _ rfl; (with_reducible repeat (first | refine blk_drewN ?_ _ | refine blk_drew ?_ | refine blk_alloc ?_ _)); refine blk_put (cs := #[.int .i64 0, .int .i64 0, .float .f64 0, .float .f64 0, .float .f64 0]) ?_ 3 _ rfl; (with_reducible repeat (first | refine blk_drewN ?_ _ | refine blk_drew ?_ | refine blk_alloc ?_ _)); refine blk_put (cs := #[.int .i64 0, .int .i64 0, .float .f64 0, .float .f64 0, .float .f64 0]) ?_ 2 _ rfl; (with_reducible repeat (first | refine blk_drewN ?_ _ | refine blk_drew ?_ | refine blk_alloc ?_ _)); refine blk_put (cs := #[.int .i64 0, .int .i64 0, .float .f64 0, .float .f64 0, .float .f64 0]) ?_ 1 _ rfl; (with_reducible repeat (first | refine blk_drewN ?_ _ | refine blk_drew ?_ | refine blk_alloc ?_ _)); refine blk_put (cs := #[.int .i64 0, .int .i64 0, .float .f64 0, .float .f64 0, .float .f64 0]) ?_ 0 _ rfl; (with_reducible repeat (first | refine blk_drewN ?_ _ | refine blk_drew ?_ | refine blk_alloc ?_ _)); exact BK123.out⟩, ⟨by repeat (first | (with_reducible first | exact HB.out | apply below_alloc | apply pw_below_drewN | apply below_drew1 | refine below_set ?_ GE120.out | refine below_set ?_ GE123.out) | exact HB.out)⟩⟩
      case round =>
        clear H'
        try clear c2
        try clear p2
        try clear c3
        try clear c5
        try clear c8
        try clear c9
        try clear hcz10_0
        try clear hcz10_1
        try clear hcz10_2
        try clear hcz10_3
        try clear hcz10_4
        try clear hfz10_0
        try clear hfz10_1
        try clear hfz10_2
        try clear hfz10_3
        try clear hfz10_4
        obtain ⟨x5_1, x21_1, x124000_1, x124001_1, x124003_1, x124004_1, rfl, rfl, HA, HK1, BK120, BK123, HB⟩ := hrel
        cases gk with
        | zero => exact absurd HA.out (by simp [impl_WatchOf.l0])
        | succ k1 =>
          have H := HA.out
          clear HA
          simp only [impl_WatchOf.l0] at H
          by_cases c11 : x21_1 < (l0.length : Int)
          · rw [if_pos c11] at H
            have c11b0 : decide (x21_1 < (l0.length : Int)) = true := decide_eq_true c11
            clear c11
            by_cases c12 : 0 ≤ x21_1
            · rw [if_pos c12] at H
              have c12b0 : decide (0 ≤ x21_1) = true := decide_eq_true c12
              clear c12
              by_cases c13 : x21_1 < (l0.length : Int)
              · rw [if_pos c13] at H
                have c13b0 : decide (x21_1 < (l0.length : Int)) = true := decide_eq_true c13
                clear c13
                replace H := Option.bind_eq_some_iff.mp H
                obtain ⟨t127, A140, H⟩ := H
                replace H : (if t127 = true then (impl_WatchOf.l0 k1 x5_1 l0 (l0.length : Int) (wrap64 (x21_1 + 1)) x124000_1 (wrap64 (x124001_1 + 1)) 0 x124003_1 x124004_1) else (if x124000_1 = 0 then (impl_WatchOf.j1 k1 x5_1 (rdOf (0 : Nat) l0 x21_1) l0 (l0.length : Int) x21_1 true x124000_1 x124001_1 0 x124003_1 x124004_1) else (impl_WatchOf.j1 k1 x5_1 (rdOf (0 : Nat) l0 x21_1) l0 (l0.length : Int) x21_1 (fLt .f64 (rdOf (0 : Nat) l0 x21_1) x124003_1) x124000_1 x124001_1 0 x124003_1 x124004_1))) = some (r1, r2, r3, r4, r5, r6) := H
                have A14 := Aside0.mk A140
                clear A140
                by_cases c15 : t127 = true
                · subst c15
                  have H1 : (impl_WatchOf.l0 k1 x5_1 l0 (l0.length : Int) (wrap64 (x21_1 + 1)) x124000_1 (wrap64 (x124001_1 + 1)) 0 x124003_1 x124004_1) = some (r1, r2, r3, r4, r5, r6) := by rw [if_pos rfl] at H; exact H
                  clear H
                  have H := H1
                  clear H1
                  have H' := Aside0.mk H
                  clear H
                  have p126 : 0 ≤ (x21_1 : Int) := of_decide_eq_true (by first | (with_reducible assumption) | assumption)
                  have q126 : x21_1 < (l0.length : Int) := of_decide_eq_true (by first | (with_reducible assumption) | assumption)
                  obtain ⟨ad126, e126, hx126_0⟩ := Opens.at_flt HR0.out x21_1 p126 q126
                  cases e126
                  replace hx126_0 := (HB.out.cell (World.block_lt_of_cell? w _ hx126_0)).trans hx126_0
                  replace p126 := eq_true p126
                  replace q126 := eq_true q126
                  go_wp2_with (first | ((with_reducible refine gate_callee (f := 85) rfl ?_); refine goesL_ (some 26) rfl rfl Try.func85 (by kernel_rfl) rfl #[.float .f64 (rdOf (0 : Nat) l0 x21_1)] rfl (by (try simp only [List.map_toArray, List.map_cons, List.map_nil]); first | done | rfl | (simp only [List.length_drop, List.length_take]; rfl)) ?_; (with_reducible refine (impl_isMissing.calls (rdOf (0 : Nat) l0 x21_1) true _ A14.out).mono ?_); rintro e w' ⟨rfl, ⟨nd, rfl⟩⟩; refine ⟨_, rfl, ?_⟩; (try (rw [drewN_self wr]; generalize hq_ : World.drewN wr _ = wr; have n0_ : Aside0 (wr.heap[gb120]? = some (.cells #[.int .i64 0, .int .i64 0, .float .f64 0, .float .f64 0, .float .f64 0] 66 (0, 0))) := ⟨by rw [← hq_]; exact (by (with_reducible repeat (first | refine blk_drewN ?_ _ | refine blk_drew ?_ | refine blk_alloc ?_ _)); exact BK120.out)⟩; have n1_ : Aside0 (wr.heap[gb123]? = some (.cells #[.int .i64 x124000_1, .int .i64 x124001_1, .float .f64 0, .float .f64 x124003_1, .float .f64 x124004_1] 66 (0, 0))) := ⟨by rw [← hq_]; exact (by (with_reducible repeat (first | refine blk_drewN ?_ _ | refine blk_drew ?_ | refine blk_alloc ?_ _)); exact BK123.out)⟩; have n2_ : Aside0 (Below w.heap.size w wr) := ⟨by rw [← hq_]; exact (by repeat (first | (with_reducible first | exact HB.out | apply below_alloc | apply pw_below_drewN | apply below_drew1 | refine below_set ?_ GE120.out | refine below_set ?_ GE123.out) | exact HB.out))⟩; clear BK120 BK123 HB hq_; have BK120 := n0_; have BK123 := n1_; have HB := n2_; clear n0_ n1_ n2_)); have hnb16 := NB123_120.out; have hnc16 := NB120_123.out; have hcz17_0 : wr.cell? ⟨gb123, 0, none⟩ = some (.int .i64 x124000_1) := (blk_cell BK123.out 0).trans rfl; have hcz17_1 : wr.cell? ⟨gb123, 1, none⟩ = some (.int .i64 x124001_1) := (blk_cell BK123.out 1).trans rfl; have hcz17_2 : wr.cell? ⟨gb123, 2, none⟩ = some (.float .f64 0) := (blk_cell BK123.out 2).trans rfl; have hcz17_3 : wr.cell? ⟨gb123, 3, none⟩ = some (.float .f64 x124003_1) := (blk_cell BK123.out 3).trans rfl; have hcz17_4 : wr.cell? ⟨gb123, 4, none⟩ = some (.float .f64 x124004_1) := (blk_cell BK123.out 4).trans rfl; have hfz17_0 := blk_frozen BK123.out 0; have hfz17_1 := blk_frozen BK123.out 1; have hfz17_2 := blk_frozen BK123.out 2; have hfz17_3 := blk_frozen BK123.out 3; have hfz17_4 := blk_frozen BK123.out 4))
                  go_roundg k1
                  case measure => have := HK1.out; omega
                  case rel => exact ⟨(x5_1), (wrap64 (x21_1 + 1)), (x124000_1), (wrap64 (x124001_1 + 1)), (x124003_1), (x124004_1), (by first | rfl | (simp; done) | (simp [*]; done)), (by first | rfl | (simp; done) | (simp [*]; done)), H', ⟨by have := HK1.out; omega⟩, ⟨by (with_reducible repeat (first | refine blk_drewN ?_ _ | refine blk_drew ?_ | refine blk_alloc ?_ _)); refine blk_far ?_ NB120_123.out _; (with_reducible repeat (first | refine blk_drewN ?_ _ | refine blk_drew ?_ | refine blk_alloc ?_ _)); exact BK120.out⟩, ⟨by (with_reducible repeat (first | refine blk_drewN ?_ _ | refine blk_drew ?_ | refine blk_alloc ?_ _)); refine blk_put (cs := #[.int .i64 x124000_1, .int .i64 x124001_1, .float .f64 0, .float .f64 x124003_1, .float .f64 x124004_1]) ?_ 1 _ rfl; (with_reducible repeat (first | refine blk_drewN ?_ _ | refine blk_drew ?_ | refine blk_alloc ?_ _)); exact BK123.out⟩, ⟨by repeat (first | (with_reducible first | exact HB.out | apply below_alloc | apply pw_below_drewN | apply below_drew1 | refine below_set ?_ GE120.out | refine below_set ?_ GE123.out) | exact HB.out)⟩⟩
                · replace c15 := Bool.eq_false_iff.mpr c15
                  subst c15
                  have H1 : (if x124000_1 = 0 then (impl_WatchOf.j1 k1 x5_1 (rdOf (0 : Nat) l0 x21_1) l0 (l0.length : Int) x21_1 true x124000_1 x124001_1 0 x124003_1 x124004_1) else (impl_WatchOf.j1 k1 x5_1 (rdOf (0 : Nat) l0 x21_1) l0 (l0.length : Int) x21_1 (fLt .f64 (rdOf (0 : Nat) l0 x21_1) x124003_1) x124000_1 x124001_1 0 x124003_1 x124004_1)) = some (r1, r2, r3, r4, r5, r6) := by rw [if_neg (show ¬ (false = true) by decide)] at H; exact H
                  clear H
                  have H := H1
                  clear H1
                  have HC18 := Aside0.mk H
                  clear H
                  have p126 : 0 ≤ (x21_1 : Int) := of_decide_eq_true (by first | (with_reducible assumption) | assumption)
                  have q126 : x21_1 < (l0.length : Int) := of_decide_eq_true (by first | (with_reducible assumption) | assumption)
                  obtain ⟨ad126, e126, hx126_0⟩ := Opens.at_flt HR0.out x21_1 p126 q126
                  cases e126
                  replace hx126_0 := (HB.out.cell (World.block_lt_of_cell? w _ hx126_0)).trans hx126_0
                  replace p126 := eq_true p126
                  replace q126 := eq_true q126
                  go_upto_region 11 with (first | ((with_reducible refine gate_callee (f := 85) rfl ?_); refine goesL_ (some 26) rfl rfl Try.func85 (by kernel_rfl) rfl #[.float .f64 (rdOf (0 : Nat) l0 x21_1)] rfl (by (try simp only [List.map_toArray, List.map_cons, List.map_nil]); first | done | rfl | (simp only [List.length_drop, List.length_take]; rfl)) ?_; (with_reducible refine (impl_isMissing.calls (rdOf (0 : Nat) l0 x21_1) false _ A14.out).mono ?_); rintro e w' ⟨rfl, ⟨nd, rfl⟩⟩; refine ⟨_, rfl, ?_⟩))
                  (try simp only [Act.put, List.setIfInBounds_toArray, List.set_cons_zero, List.set_cons_succ])
                  go_cut [39] (fun v39 wc => ∃ (kq : Nat) (x39_17 : Bool), v39 = .bool x39_17 ∧ Aside0 (impl_WatchOf.j1 kq x5_1 (rdOf (0 : Nat) l0 x21_1) l0 (l0.length : Int) x21_1 x39_17 x124000_1 x124001_1 0 x124003_1 x124004_1 = some (r1, r2, r3, r4, r5, r6)) ∧ Aside0 (kq ≤ k1) ∧ Aside0 (wc.heap[gb120]? = some (.cells #[.int .i64 0, .int .i64 0, .float .f64 0, .float .f64 0, .float .f64 0] 66 (0, 0))) ∧ Aside0 (wc.heap[gb123]? = some (.cells #[.int .i64 x124000_1, .int .i64 x124001_1, .float .f64 0, .float .f64 x124003_1, .float .f64 x124004_1] 66 (0, 0))) ∧ Aside0 (Below w.heap.size w wc))
                  case first =>
                    have H := HC18.out
                    clear HC18
                    by_cases c19 : x124000_1 = 0
                    · rw [if_pos c19] at H
                      have c19b0 : (x124000_1 == 0) = true := beq_iff_eq.mpr c19
                      have c19b1 : (x124000_1 != 0) = false := bne_eq_false_iff_eq.mpr c19
                      clear c19
                      (first | rw [c19b0] | (simp only [i64_w, i32_w]; rw [c19b0]) | skip)
                      have H' := Aside0.mk H
                      clear H
                      have hnb20 := NB123_120.out
                      have hnc20 := NB120_123.out
                      have hcz21_0 : wr.cell? ⟨gb123, 0, none⟩ = some (.int .i64 x124000_1) := (blk_cell BK123.out 0).trans rfl
                      have hcz21_1 : wr.cell? ⟨gb123, 1, none⟩ = some (.int .i64 x124001_1) := (blk_cell BK123.out 1).trans rfl
                      have hcz21_2 : wr.cell? ⟨gb123, 2, none⟩ = some (.float .f64 0) := (blk_cell BK123.out 2).trans rfl
                      have hcz21_3 : wr.cell? ⟨gb123, 3, none⟩ = some (.float .f64 x124003_1) := (blk_cell BK123.out 3).trans rfl
                      have hcz21_4 : wr.cell? ⟨gb123, 4, none⟩ = some (.float .f64 x124004_1) := (blk_cell BK123.out 4).trans rfl
                      have hfz21_0 := blk_frozen BK123.out 0
                      have hfz21_1 := blk_frozen BK123.out 1
                      have hfz21_2 := blk_frozen BK123.out 2
                      have hfz21_3 := blk_frozen BK123.out 3
                      have hfz21_4 := blk_frozen BK123.out 4
                      go_wp2
                      go_meet
                      case rel => exact ⟨_, (true), (by first | rfl | (simp; done) | (simp [*]; done)), H', ⟨by have := HK1.out; first | omega | exact Nat.le_refl _⟩, ⟨by (with_reducible repeat (first | refine blk_drewN ?_ _ | refine blk_drew ?_ | refine blk_alloc ?_ _)); exact BK120.out⟩, ⟨by (with_reducible repeat (first | refine blk_drewN ?_ _ | refine blk_drew ?_ | refine blk_alloc ?_ _)); exact BK123.out⟩, ⟨by repeat (first | (with_reducible first | exact HB.out | apply below_alloc | apply pw_below_drewN | apply below_drew1 | refine below_set ?_ GE120.out | refine below_set ?_ GE123.out) | exact HB.out)⟩⟩
                    · rw [if_neg c19] at H
                      have c19b0 : (x124000_1 == 0) = false := beq_eq_false_iff_ne.mpr c19
                      have c19b1 : (x124000_1 != 0) = true := bne_iff_ne.mpr c19
                      (first | rw [c19b0] | (simp only [i64_w, i32_w]; rw [c19b0]) | skip)
                      have H' := Aside0.mk H
                      clear H
                      have hnb22 := NB123_120.out
                      have hnc22 := NB120_123.out
                      have hcz23_0 : wr.cell? ⟨gb123, 0, none⟩ = some (.int .i64 x124000_1) := (blk_cell BK123.out 0).trans rfl
                      have hcz23_1 : wr.cell? ⟨gb123, 1, none⟩ = some (.int .i64 x124001_1) := (blk_cell BK123.out 1).trans rfl
                      have hcz23_2 : wr.cell? ⟨gb123, 2, none⟩ = some (.float .f64 0) := (blk_cell BK123.out 2).trans rfl
                      have hcz23_3 : wr.cell? ⟨gb123, 3, none⟩ = some (.float .f64 x124003_1) := (blk_cell BK123.out 3).trans rfl
                      have hcz23_4 : wr.cell? ⟨gb123, 4, none⟩ = some (.float .f64 x124004_1) := (blk_cell BK123.out 4).trans rfl
                      have hfz23_0 := blk_frozen BK123.out 0
                      have hfz23_1 := blk_frozen BK123.out 1
                      have hfz23_2 := blk_frozen BK123.out 2
                      have hfz23_3 := blk_frozen BK123.out 3
                      have hfz23_4 := blk_frozen BK123.out 4
                      go_wp2
                      go_meet
                      case rel => exact ⟨_, ((fLt .f64 (rdOf (0 : Nat) l0 x21_1) x124003_1)), (by first | rfl | (simp; done) | (simp [*]; done)), H', ⟨by have := HK1.out; first | omega | exact Nat.le_refl _⟩, ⟨by (with_reducible repeat (first | refine blk_drewN ?_ _ | refine blk_drew ?_ | refine blk_alloc ?_ _)); exact BK120.out⟩, ⟨by (with_reducible repeat (first | refine blk_drewN ?_ _ | refine blk_drew ?_ | refine blk_alloc ?_ _)); exact BK123.out⟩, ⟨by repeat (first | (with_reducible first | exact HB.out | apply below_alloc | apply pw_below_drewN | apply below_drew1 | refine below_set ?_ GE120.out | refine below_set ?_ GE123.out) | exact HB.out)⟩⟩
                  case rest =>
                    clear HC18
                    try clear c1
                    try clear p1
                    try clear q1
                    try clear hx1
                    try clear c2
                    try clear p2
                    try clear c3
                    try clear c5
                    try clear p6
                    try clear c8
                    try clear c9
                    try clear c11
                    try clear c11b0
                    try clear c12
                    try clear c12b0
                    try clear p12
                    try clear q12
                    try clear hx12
                    try clear c13
                    try clear c13b0
                    try clear c15
                    try clear c16
                    try clear c19
                    try clear c19b0
                    try clear c19b1
                    try clear c20
                    try clear c22
                    try clear hcz10_0
                    try clear hcz10_1
                    try clear hcz10_2
                    try clear hcz10_3
                    try clear hcz10_4
                    try clear hcz17_0
                    try clear hcz17_1
                    try clear hcz17_2
                    try clear hcz17_3
                    try clear hcz17_4
                    try clear hcz21_0
                    try clear hcz21_1
                    try clear hcz21_2
                    try clear hcz21_3
                    try clear hcz21_4
                    try clear hcz23_0
                    try clear hcz23_1
                    try clear hcz23_2
                    try clear hcz23_3
                    try clear hcz23_4
                    try clear hfz10_0
                    try clear hfz10_1
                    try clear hfz10_2
                    try clear hfz10_3
                    try clear hfz10_4
                    try clear hfz17_0
                    try clear hfz17_1
                    try clear hfz17_2
                    try clear hfz17_3
                    try clear hfz17_4
                    try clear hfz21_0
                    try clear hfz21_1
                    try clear hfz21_2
                    try clear hfz21_3
                    try clear hfz21_4
                    try clear hfz23_0
                    try clear hfz23_1
                    try clear hfz23_2
                    try clear hfz23_3
                    try clear hfz23_4
                    try clear hx126_0
                    try clear p126
                    try clear p2
                    try clear q126
                    obtain ⟨kq, x39_17, rfl, HA, HJ17, BK120, BK123, HB⟩ := hcut
                    cases kq with
                    | zero => exact absurd HA.out (by simp [impl_WatchOf.j1])
                    | succ kj17 =>
                      have H := HA.out
                      clear HA
                      simp only [impl_WatchOf.j1] at H
                      by_cases c24 : x39_17 = true
                      · subst c24
                        have H1 : (if x124000_1 = 0 then ((floatBits .add .f64 x5_1 (rdOf (0 : Nat) l0 x21_1)).bind fun t128 => (impl_WatchOf.l0 kj17 t128 l0 (l0.length : Int) (wrap64 (x21_1 + 1)) (wrap64 (x124000_1 + 1)) x124001_1 0 (rdOf (0 : Nat) l0 x21_1) (rdOf (0 : Nat) l0 x21_1))) else (if (fGt .f64 (rdOf (0 : Nat) l0 x21_1) x124004_1) = true then ((floatBits .add .f64 x5_1 (rdOf (0 : Nat) l0 x21_1)).bind fun t129 => (impl_WatchOf.l0 kj17 t129 l0 (l0.length : Int) (wrap64 (x21_1 + 1)) (wrap64 (x124000_1 + 1)) x124001_1 0 (rdOf (0 : Nat) l0 x21_1) (rdOf (0 : Nat) l0 x21_1))) else ((floatBits .add .f64 x5_1 (rdOf (0 : Nat) l0 x21_1)).bind fun t130 => (impl_WatchOf.l0 kj17 t130 l0 (l0.length : Int) (wrap64 (x21_1 + 1)) (wrap64 (x124000_1 + 1)) x124001_1 0 (rdOf (0 : Nat) l0 x21_1) x124004_1)))) = some (r1, r2, r3, r4, r5, r6) := by rw [if_pos rfl] at H; exact H
                        clear H
                        have H := H1
                        clear H1
                        by_cases c25 : x124000_1 = 0
                        · rw [if_pos c25] at H
                          have c25b0 : (x124000_1 == 0) = true := beq_iff_eq.mpr c25
                          have c25b1 : (x124000_1 != 0) = false := bne_eq_false_iff_eq.mpr c25
                          clear c25
                          replace H := Option.bind_eq_some_iff.mp H
                          obtain ⟨t128, HF_, H⟩ := H
                          replace H : (impl_WatchOf.l0 kj17 t128 l0 (l0.length : Int) (wrap64 (x21_1 + 1)) (wrap64 (x124000_1 + 1)) x124001_1 0 (rdOf (0 : Nat) l0 x21_1) (rdOf (0 : Nat) l0 x21_1)) = some (r1, r2, r3, r4, r5, r6) := H
                          have hfz26_0 : ∀ W_ : World, (binOp .add 35 (.float .f64 x5_1) (.float .f64 (rdOf (0 : Nat) l0 x21_1))).run Try.prog W_ = .ok (.float .f64 t128) W_ := fun W_ => run_float_arith W_ .add 35 .f64 x5_1 (rdOf (0 : Nat) l0 x21_1) t128 HF_
                          clear HF_
                          have H' := Aside0.mk H
                          clear H
                          have hnb27 := NB123_120.out
                          have hnc27 := NB120_123.out
                          have hcz28_0 : wc.cell? ⟨gb123, 0, none⟩ = some (.int .i64 x124000_1) := (blk_cell BK123.out 0).trans rfl
                          have hcz28_1 : wc.cell? ⟨gb123, 1, none⟩ = some (.int .i64 x124001_1) := (blk_cell BK123.out 1).trans rfl
                          have hcz28_2 : wc.cell? ⟨gb123, 2, none⟩ = some (.float .f64 0) := (blk_cell BK123.out 2).trans rfl
                          have hcz28_3 : wc.cell? ⟨gb123, 3, none⟩ = some (.float .f64 x124003_1) := (blk_cell BK123.out 3).trans rfl
                          have hcz28_4 : wc.cell? ⟨gb123, 4, none⟩ = some (.float .f64 x124004_1) := (blk_cell BK123.out 4).trans rfl
                          have hfz28_0 := blk_frozen BK123.out 0
                          have hfz28_1 := blk_frozen BK123.out 1
                          have hfz28_2 := blk_frozen BK123.out 2
                          have hfz28_3 := blk_frozen BK123.out 3
                          have hfz28_4 := blk_frozen BK123.out 4
                          go_wp2
                          go_roundg kj17
                          case measure => have := HK1.out; have := HJ17.out; omega
                          case rel => exact ⟨(t128), (wrap64 (x21_1 + 1)), (wrap64 (x124000_1 + 1)), (x124001_1), ((rdOf (0 : Nat) l0 x21_1)), ((rdOf (0 : Nat) l0 x21_1)), (by first | rfl | (simp; done) | (simp [*]; done)), (by first | rfl | (simp; done) | (simp [*]; done)), H', ⟨by have := HK1.out; have := HJ17.out; omega⟩, ⟨by (with_reducible repeat (first | refine blk_drewN ?_ _ | refine blk_drew ?_ | refine blk_alloc ?_ _)); refine blk_far ?_ NB120_123.out _; (with_reducible repeat (first | refine blk_drewN ?_ _ | refine blk_drew ?_ | refine blk_alloc ?_ _)); refine blk_far ?_ NB120_123.out _; (with_reducible repeat (first | refine blk_drewN ?_ _ | refine blk_drew ?_ | refine blk_alloc ?_ _)); refine blk_far ?_ NB120_123.out _; (with_reducible repeat (first | refine blk_drewN ?_ _ | refine blk_drew ?_ | refine blk_alloc ?_ _)); exact BK120.out⟩, ⟨by (with_reducible repeat (first | refine blk_drewN ?_ _ | refine blk_drew ?_ | refine blk_alloc ?_ _)); refine blk_put (cs := #[.int .i64 x124000_1, .int .i64 x124001_1, .float .f64 0, .float .f64 (rdOf (0 : Nat) l0 x21_1), .float .f64 (rdOf (0 : Nat) l0 x21_1)]) ?_ 0 _ rfl; (with_reducible repeat (first | refine blk_drewN ?_ _ | refine blk_drew ?_ | refine blk_alloc ?_ _)); refine blk_put (cs := #[.int .i64 x124000_1, .int .i64 x124001_1, .float .f64 0, .float .f64 (rdOf (0 : Nat) l0 x21_1), .float .f64 x124004_1]) ?_ 4 _ rfl; (with_reducible repeat (first | refine blk_drewN ?_ _ | refine blk_drew ?_ | refine blk_alloc ?_ _)); refine blk_put (cs := #[.int .i64 x124000_1, .int .i64 x124001_1, .float .f64 0, .float .f64 x124003_1, .float .f64 x124004_1]) ?_ 3 _ rfl; (with_reducible repeat (first | refine blk_drewN ?_ _ | refine blk_drew ?_ | refine blk_alloc ?_ _)); exact BK123.out⟩, ⟨by repeat (first | (with_reducible first | exact HB.out | apply below_alloc | apply pw_below_drewN | apply below_drew1 | refine below_set ?_ GE120.out | refine below_set ?_ GE123.out) | exact HB.out)⟩⟩
                        · rw [if_neg c25] at H
                          have c25b0 : (x124000_1 == 0) = false := beq_eq_false_iff_ne.mpr c25
                          have c25b1 : (x124000_1 != 0) = true := bne_iff_ne.mpr c25
                          by_cases c29 : (fGt .f64 (rdOf (0 : Nat) l0 x21_1) x124004_1) = true
                          · rw [if_pos c29] at H
                            have c29b0 : (fGt .f64 (rdOf (0 : Nat) l0 x21_1) x124004_1) = true := c29
                            clear c29
                            replace H := Option.bind_eq_some_iff.mp H
                            obtain ⟨t129, HF_, H⟩ := H
                            replace H : (impl_WatchOf.l0 kj17 t129 l0 (l0.length : Int) (wrap64 (x21_1 + 1)) (wrap64 (x124000_1 + 1)) x124001_1 0 (rdOf (0 : Nat) l0 x21_1) (rdOf (0 : Nat) l0 x21_1)) = some (r1, r2, r3, r4, r5, r6) := H
                            have hfz30_0 : ∀ W_ : World, (binOp .add 35 (.float .f64 x5_1) (.float .f64 (rdOf (0 : Nat) l0 x21_1))).run Try.prog W_ = .ok (.float .f64 t129) W_ := fun W_ => run_float_arith W_ .add 35 .f64 x5_1 (rdOf (0 : Nat) l0 x21_1) t129 HF_
                            clear HF_
                            have H' := Aside0.mk H
                            clear H
                            have hnb31 := NB123_120.out
                            have hnc31 := NB120_123.out
                            have hcz32_0 : wc.cell? ⟨gb123, 0, none⟩ = some (.int .i64 x124000_1) := (blk_cell BK123.out 0).trans rfl
                            have hcz32_1 : wc.cell? ⟨gb123, 1, none⟩ = some (.int .i64 x124001_1) := (blk_cell BK123.out 1).trans rfl
                            have hcz32_2 : wc.cell? ⟨gb123, 2, none⟩ = some (.float .f64 0) := (blk_cell BK123.out 2).trans rfl
                            have hcz32_3 : wc.cell? ⟨gb123, 3, none⟩ = some (.float .f64 x124003_1) := (blk_cell BK123.out 3).trans rfl
                            have hcz32_4 : wc.cell? ⟨gb123, 4, none⟩ = some (.float .f64 x124004_1) := (blk_cell BK123.out 4).trans rfl
                            have hfz32_0 := blk_frozen BK123.out 0
                            have hfz32_1 := blk_frozen BK123.out 1
                            have hfz32_2 := blk_frozen BK123.out 2
                            have hfz32_3 := blk_frozen BK123.out 3
                            have hfz32_4 := blk_frozen BK123.out 4
                            go_wp2
                            go_roundg kj17
                            case measure => have := HK1.out; have := HJ17.out; omega
                            case rel => exact ⟨(t129), (wrap64 (x21_1 + 1)), (wrap64 (x124000_1 + 1)), (x124001_1), ((rdOf (0 : Nat) l0 x21_1)), ((rdOf (0 : Nat) l0 x21_1)), (by first | rfl | (simp; done) | (simp [*]; done)), (by first | rfl | (simp; done) | (simp [*]; done)), H', ⟨by have := HK1.out; have := HJ17.out; omega⟩, ⟨by (with_reducible repeat (first | refine blk_drewN ?_ _ | refine blk_drew ?_ | refine blk_alloc ?_ _)); refine blk_far ?_ NB120_123.out _; (with_reducible repeat (first | refine blk_drewN ?_ _ | refine blk_drew ?_ | refine blk_alloc ?_ _)); refine blk_far ?_ NB120_123.out _; (with_reducible repeat (first | refine blk_drewN ?_ _ | refine blk_drew ?_ | refine blk_alloc ?_ _)); refine blk_far ?_ NB120_123.out _; (with_reducible repeat (first | refine blk_drewN ?_ _ | refine blk_drew ?_ | refine blk_alloc ?_ _)); exact BK120.out⟩, ⟨by (with_reducible repeat (first | refine blk_drewN ?_ _ | refine blk_drew ?_ | refine blk_alloc ?_ _)); refine blk_put (cs := #[.int .i64 x124000_1, .int .i64 x124001_1, .float .f64 0, .float .f64 (rdOf (0 : Nat) l0 x21_1), .float .f64 (rdOf (0 : Nat) l0 x21_1)]) ?_ 0 _ rfl; (with_reducible repeat (first | refine blk_drewN ?_ _ | refine blk_drew ?_ | refine blk_alloc ?_ _)); refine blk_put (cs := #[.int .i64 x124000_1, .int .i64 x124001_1, .float .f64 0, .float .f64 (rdOf (0 : Nat) l0 x21_1), .float .f64 x124004_1]) ?_ 4 _ rfl; (with_reducible repeat (first | refine blk_drewN ?_ _ | refine blk_drew ?_ | refine blk_alloc ?_ _)); refine blk_put (cs := #[.int .i64 x124000_1, .int .i64 x124001_1, .float .f64 0, .float .f64 x124003_1, .float .f64 x124004_1]) ?_ 3 _ rfl; (with_reducible repeat (first | refine blk_drewN ?_ _ | refine blk_drew ?_ | refine blk_alloc ?_ _)); exact BK123.out⟩, ⟨by repeat (first | (with_reducible first | exact HB.out | apply below_alloc | apply pw_below_drewN | apply below_drew1 | refine below_set ?_ GE120.out | refine below_set ?_ GE123.out) | exact HB.out)⟩⟩
                          · rw [if_neg c29] at H
                            have c29b0 : (fGt .f64 (rdOf (0 : Nat) l0 x21_1) x124004_1) = false := by simpa using c29
                            clear c29
                            replace H := Option.bind_eq_some_iff.mp H
                            obtain ⟨t130, HF_, H⟩ := H
                            replace H : (impl_WatchOf.l0 kj17 t130 l0 (l0.length : Int) (wrap64 (x21_1 + 1)) (wrap64 (x124000_1 + 1)) x124001_1 0 (rdOf (0 : Nat) l0 x21_1) x124004_1) = some (r1, r2, r3, r4, r5, r6) := H
                            have hfz33_0 : ∀ W_ : World, (binOp .add 35 (.float .f64 x5_1) (.float .f64 (rdOf (0 : Nat) l0 x21_1))).run Try.prog W_ = .ok (.float .f64 t130) W_ := fun W_ => run_float_arith W_ .add 35 .f64 x5_1 (rdOf (0 : Nat) l0 x21_1) t130 HF_
                            clear HF_
                            have H' := Aside0.mk H
                            clear H
                            have hnb34 := NB123_120.out
                            have hnc34 := NB120_123.out
                            have hcz35_0 : wc.cell? ⟨gb123, 0, none⟩ = some (.int .i64 x124000_1) := (blk_cell BK123.out 0).trans rfl
                            have hcz35_1 : wc.cell? ⟨gb123, 1, none⟩ = some (.int .i64 x124001_1) := (blk_cell BK123.out 1).trans rfl
                            have hcz35_2 : wc.cell? ⟨gb123, 2, none⟩ = some (.float .f64 0) := (blk_cell BK123.out 2).trans rfl
                            have hcz35_3 : wc.cell? ⟨gb123, 3, none⟩ = some (.float .f64 x124003_1) := (blk_cell BK123.out 3).trans rfl
                            have hcz35_4 : wc.cell? ⟨gb123, 4, none⟩ = some (.float .f64 x124004_1) := (blk_cell BK123.out 4).trans rfl
                            have hfz35_0 := blk_frozen BK123.out 0
                            have hfz35_1 := blk_frozen BK123.out 1
                            have hfz35_2 := blk_frozen BK123.out 2
                            have hfz35_3 := blk_frozen BK123.out 3
                            have hfz35_4 := blk_frozen BK123.out 4
                            go_wp2
                            go_roundg kj17
                            case measure => have := HK1.out; have := HJ17.out; omega
                            case rel => exact ⟨(t130), (wrap64 (x21_1 + 1)), (wrap64 (x124000_1 + 1)), (x124001_1), ((rdOf (0 : Nat) l0 x21_1)), (x124004_1), (by first | rfl | (simp; done) | (simp [*]; done)), (by first | rfl | (simp; done) | (simp [*]; done)), H', ⟨by have := HK1.out; have := HJ17.out; omega⟩, ⟨by (with_reducible repeat (first | refine blk_drewN ?_ _ | refine blk_drew ?_ | refine blk_alloc ?_ _)); refine blk_far ?_ NB120_123.out _; (with_reducible repeat (first | refine blk_drewN ?_ _ | refine blk_drew ?_ | refine blk_alloc ?_ _)); refine blk_far ?_ NB120_123.out _; (with_reducible repeat (first | refine blk_drewN ?_ _ | refine blk_drew ?_ | refine blk_alloc ?_ _)); exact BK120.out⟩, ⟨by (with_reducible repeat (first | refine blk_drewN ?_ _ | refine blk_drew ?_ | refine blk_alloc ?_ _)); refine blk_put (cs := #[.int .i64 x124000_1, .int .i64 x124001_1, .float .f64 0, .float .f64 (rdOf (0 : Nat) l0 x21_1), .float .f64 x124004_1]) ?_ 0 _ rfl; (with_reducible repeat (first | refine blk_drewN ?_ _ | refine blk_drew ?_ | refine blk_alloc ?_ _)); refine blk_put (cs := #[.int .i64 x124000_1, .int .i64 x124001_1, .float .f64 0, .float .f64 x124003_1, .float .f64 x124004_1]) ?_ 3 _ rfl; (with_reducible repeat (first | refine blk_drewN ?_ _ | refine blk_drew ?_ | refine blk_alloc ?_ _)); exact BK123.out⟩, ⟨by repeat (first | (with_reducible first | exact HB.out | apply below_alloc | apply pw_below_drewN | apply below_drew1 | refine below_set ?_ GE120.out | refine below_set ?_ GE123.out) | exact HB.out)⟩⟩
                      · replace c24 := Bool.eq_false_iff.mpr c24
                        subst c24
                        have H1 : (if x124000_1 = 0 then ((floatBits .add .f64 x5_1 (rdOf (0 : Nat) l0 x21_1)).bind fun t131 => (impl_WatchOf.l0 kj17 t131 l0 (l0.length : Int) (wrap64 (x21_1 + 1)) (wrap64 (x124000_1 + 1)) x124001_1 0 x124003_1 (rdOf (0 : Nat) l0 x21_1))) else (if (fGt .f64 (rdOf (0 : Nat) l0 x21_1) x124004_1) = true then ((floatBits .add .f64 x5_1 (rdOf (0 : Nat) l0 x21_1)).bind fun t132 => (impl_WatchOf.l0 kj17 t132 l0 (l0.length : Int) (wrap64 (x21_1 + 1)) (wrap64 (x124000_1 + 1)) x124001_1 0 x124003_1 (rdOf (0 : Nat) l0 x21_1))) else ((floatBits .add .f64 x5_1 (rdOf (0 : Nat) l0 x21_1)).bind fun t133 => (impl_WatchOf.l0 kj17 t133 l0 (l0.length : Int) (wrap64 (x21_1 + 1)) (wrap64 (x124000_1 + 1)) x124001_1 0 x124003_1 x124004_1)))) = some (r1, r2, r3, r4, r5, r6) := by rw [if_neg (show ¬ (false = true) by decide)] at H; exact H
                        clear H
                        have H := H1
                        clear H1
                        by_cases c36 : x124000_1 = 0
                        · rw [if_pos c36] at H
                          have c36b0 : (x124000_1 == 0) = true := beq_iff_eq.mpr c36
                          have c36b1 : (x124000_1 != 0) = false := bne_eq_false_iff_eq.mpr c36
                          clear c36
                          replace H := Option.bind_eq_some_iff.mp H
                          obtain ⟨t131, HF_, H⟩ := H
                          replace H : (impl_WatchOf.l0 kj17 t131 l0 (l0.length : Int) (wrap64 (x21_1 + 1)) (wrap64 (x124000_1 + 1)) x124001_1 0 x124003_1 (rdOf (0 : Nat) l0 x21_1)) = some (r1, r2, r3, r4, r5, r6) := H
                          have hfz37_0 : ∀ W_ : World, (binOp .add 35 (.float .f64 x5_1) (.float .f64 (rdOf (0 : Nat) l0 x21_1))).run Try.prog W_ = .ok (.float .f64 t131) W_ := fun W_ => run_float_arith W_ .add 35 .f64 x5_1 (rdOf (0 : Nat) l0 x21_1) t131 HF_
                          clear HF_
                          have H' := Aside0.mk H
                          clear H
                          have hnb38 := NB123_120.out
                          have hnc38 := NB120_123.out
                          have hcz39_0 : wc.cell? ⟨gb123, 0, none⟩ = some (.int .i64 x124000_1) := (blk_cell BK123.out 0).trans rfl
                          have hcz39_1 : wc.cell? ⟨gb123, 1, none⟩ = some (.int .i64 x124001_1) := (blk_cell BK123.out 1).trans rfl
                          have hcz39_2 : wc.cell? ⟨gb123, 2, none⟩ = some (.float .f64 0) := (blk_cell BK123.out 2).trans rfl
                          have hcz39_3 : wc.cell? ⟨gb123, 3, none⟩ = some (.float .f64 x124003_1) := (blk_cell BK123.out 3).trans rfl
                          have hcz39_4 : wc.cell? ⟨gb123, 4, none⟩ = some (.float .f64 x124004_1) := (blk_cell BK123.out 4).trans rfl
                          have hfz39_0 := blk_frozen BK123.out 0
                          have hfz39_1 := blk_frozen BK123.out 1
                          have hfz39_2 := blk_frozen BK123.out 2
                          have hfz39_3 := blk_frozen BK123.out 3
                          have hfz39_4 := blk_frozen BK123.out 4
                          go_wp2
                          go_roundg kj17
                          case measure => have := HK1.out; have := HJ17.out; omega
                          case rel => exact ⟨(t131), (wrap64 (x21_1 + 1)), (wrap64 (x124000_1 + 1)), (x124001_1), (x124003_1), ((rdOf (0 : Nat) l0 x21_1)), (by first | rfl | (simp; done) | (simp [*]; done)), (by first | rfl | (simp; done) | (simp [*]; done)), H', ⟨by have := HK1.out; have := HJ17.out; omega⟩, ⟨by (with_reducible repeat (first | refine blk_drewN ?_ _ | refine blk_drew ?_ | refine blk_alloc ?_ _)); refine blk_far ?_ NB120_123.out _; (with_reducible repeat (first | refine blk_drewN ?_ _ | refine blk_drew ?_ | refine blk_alloc ?_ _)); refine blk_far ?_ NB120_123.out _; (with_reducible repeat (first | refine blk_drewN ?_ _ | refine blk_drew ?_ | refine blk_alloc ?_ _)); exact BK120.out⟩, ⟨by (with_reducible repeat (first | refine blk_drewN ?_ _ | refine blk_drew ?_ | refine blk_alloc ?_ _)); refine blk_put (cs := #[.int .i64 x124000_1, .int .i64 x124001_1, .float .f64 0, .float .f64 x124003_1, .float .f64 (rdOf (0 : Nat) l0 x21_1)]) ?_ 0 _ rfl; (with_reducible repeat (first | refine blk_drewN ?_ _ | refine blk_drew ?_ | refine blk_alloc ?_ _)); refine blk_put (cs := #[.int .i64 x124000_1, .int .i64 x124001_1, .float .f64 0, .float .f64 x124003_1, .float .f64 x124004_1]) ?_ 4 _ rfl; (with_reducible repeat (first | refine blk_drewN ?_ _ | refine blk_drew ?_ | refine blk_alloc ?_ _)); exact BK123.out⟩, ⟨by repeat (first | (with_reducible first | exact HB.out | apply below_alloc | apply pw_below_drewN | apply below_drew1 | refine below_set ?_ GE120.out | refine below_set ?_ GE123.out) | exact HB.out)⟩⟩
                        · rw [if_neg c36] at H
                          have c36b0 : (x124000_1 == 0) = false := beq_eq_false_iff_ne.mpr c36
                          have c36b1 : (x124000_1 != 0) = true := bne_iff_ne.mpr c36
                          by_cases c40 : (fGt .f64 (rdOf (0 : Nat) l0 x21_1) x124004_1) = true
                          · rw [if_pos c40] at H
                            have c40b0 : (fGt .f64 (rdOf (0 : Nat) l0 x21_1) x124004_1) = true := c40
                            clear c40
                            replace H := Option.bind_eq_some_iff.mp H
                            obtain ⟨t132, HF_, H⟩ := H
                            replace H : (impl_WatchOf.l0 kj17 t132 l0 (l0.length : Int) (wrap64 (x21_1 + 1)) (wrap64 (x124000_1 + 1)) x124001_1 0 x124003_1 (rdOf (0 : Nat) l0 x21_1)) = some (r1, r2, r3, r4, r5, r6) := H
                            have hfz41_0 : ∀ W_ : World, (binOp .add 35 (.float .f64 x5_1) (.float .f64 (rdOf (0 : Nat) l0 x21_1))).run Try.prog W_ = .ok (.float .f64 t132) W_ := fun W_ => run_float_arith W_ .add 35 .f64 x5_1 (rdOf (0 : Nat) l0 x21_1) t132 HF_
                            clear HF_
                            have H' := Aside0.mk H
                            clear H
                            have hnb42 := NB123_120.out
                            have hnc42 := NB120_123.out
                            have hcz43_0 : wc.cell? ⟨gb123, 0, none⟩ = some (.int .i64 x124000_1) := (blk_cell BK123.out 0).trans rfl
                            have hcz43_1 : wc.cell? ⟨gb123, 1, none⟩ = some (.int .i64 x124001_1) := (blk_cell BK123.out 1).trans rfl
                            have hcz43_2 : wc.cell? ⟨gb123, 2, none⟩ = some (.float .f64 0) := (blk_cell BK123.out 2).trans rfl
                            have hcz43_3 : wc.cell? ⟨gb123, 3, none⟩ = some (.float .f64 x124003_1) := (blk_cell BK123.out 3).trans rfl
                            have hcz43_4 : wc.cell? ⟨gb123, 4, none⟩ = some (.float .f64 x124004_1) := (blk_cell BK123.out 4).trans rfl
                            have hfz43_0 := blk_frozen BK123.out 0
                            have hfz43_1 := blk_frozen BK123.out 1
                            have hfz43_2 := blk_frozen BK123.out 2
                            have hfz43_3 := blk_frozen BK123.out 3
                            have hfz43_4 := blk_frozen BK123.out 4
                            go_wp2
                            go_roundg kj17
                            case measure => have := HK1.out; have := HJ17.out; omega
                            case rel => exact ⟨(t132), (wrap64 (x21_1 + 1)), (wrap64 (x124000_1 + 1)), (x124001_1), (x124003_1), ((rdOf (0 : Nat) l0 x21_1)), (by first | rfl | (simp; done) | (simp [*]; done)), (by first | rfl | (simp; done) | (simp [*]; done)), H', ⟨by have := HK1.out; have := HJ17.out; omega⟩, ⟨by (with_reducible repeat (first | refine blk_drewN ?_ _ | refine blk_drew ?_ | refine blk_alloc ?_ _)); refine blk_far ?_ NB120_123.out _; (with_reducible repeat (first | refine blk_drewN ?_ _ | refine blk_drew ?_ | refine blk_alloc ?_ _)); refine blk_far ?_ NB120_123.out _; (with_reducible repeat (first | refine blk_drewN ?_ _ | refine blk_drew ?_ | refine blk_alloc ?_ _)); exact BK120.out⟩, ⟨by (with_reducible repeat (first | refine blk_drewN ?_ _ | refine blk_drew ?_ | refine blk_alloc ?_ _)); refine blk_put (cs := #[.int .i64 x124000_1, .int .i64 x124001_1, .float .f64 0, .float .f64 x124003_1, .float .f64 (rdOf (0 : Nat) l0 x21_1)]) ?_ 0 _ rfl; (with_reducible repeat (first | refine blk_drewN ?_ _ | refine blk_drew ?_ | refine blk_alloc ?_ _)); refine blk_put (cs := #[.int .i64 x124000_1, .int .i64 x124001_1, .float .f64 0, .float .f64 x124003_1, .float .f64 x124004_1]) ?_ 4 _ rfl; (with_reducible repeat (first | refine blk_drewN ?_ _ | refine blk_drew ?_ | refine blk_alloc ?_ _)); exact BK123.out⟩, ⟨by repeat (first | (with_reducible first | exact HB.out | apply below_alloc | apply pw_below_drewN | apply below_drew1 | refine below_set ?_ GE120.out | refine below_set ?_ GE123.out) | exact HB.out)⟩⟩
                          · rw [if_neg c40] at H
                            have c40b0 : (fGt .f64 (rdOf (0 : Nat) l0 x21_1) x124004_1) = false := by simpa using c40
                            clear c40
                            replace H := Option.bind_eq_some_iff.mp H
                            obtain ⟨t133, HF_, H⟩ := H
                            replace H : (impl_WatchOf.l0 kj17 t133 l0 (l0.length : Int) (wrap64 (x21_1 + 1)) (wrap64 (x124000_1 + 1)) x124001_1 0 x124003_1 x124004_1) = some (r1, r2, r3, r4, r5, r6) := H
                            have hfz44_0 : ∀ W_ : World, (binOp .add 35 (.float .f64 x5_1) (.float .f64 (rdOf (0 : Nat) l0 x21_1))).run Try.prog W_ = .ok (.float .f64 t133) W_ := fun W_ => run_float_arith W_ .add 35 .f64 x5_1 (rdOf (0 : Nat) l0 x21_1) t133 HF_
                            clear HF_
                            have H' := Aside0.mk H
                            clear H
                            have hnb45 := NB123_120.out
                            have hnc45 := NB120_123.out
                            have hcz46_0 : wc.cell? ⟨gb123, 0, none⟩ = some (.int .i64 x124000_1) := (blk_cell BK123.out 0).trans rfl
                            have hcz46_1 : wc.cell? ⟨gb123, 1, none⟩ = some (.int .i64 x124001_1) := (blk_cell BK123.out 1).trans rfl
                            have hcz46_2 : wc.cell? ⟨gb123, 2, none⟩ = some (.float .f64 0) := (blk_cell BK123.out 2).trans rfl
                            have hcz46_3 : wc.cell? ⟨gb123, 3, none⟩ = some (.float .f64 x124003_1) := (blk_cell BK123.out 3).trans rfl
                            have hcz46_4 : wc.cell? ⟨gb123, 4, none⟩ = some (.float .f64 x124004_1) := (blk_cell BK123.out 4).trans rfl
                            have hfz46_0 := blk_frozen BK123.out 0
                            have hfz46_1 := blk_frozen BK123.out 1
                            have hfz46_2 := blk_frozen BK123.out 2
                            have hfz46_3 := blk_frozen BK123.out 3
                            have hfz46_4 := blk_frozen BK123.out 4
                            go_wp2
                            go_roundg kj17
                            case measure => have := HK1.out; have := HJ17.out; omega
                            case rel => exact ⟨(t133), (wrap64 (x21_1 + 1)), (wrap64 (x124000_1 + 1)), (x124001_1), (x124003_1), (x124004_1), (by first | rfl | (simp; done) | (simp [*]; done)), (by first | rfl | (simp; done) | (simp [*]; done)), H', ⟨by have := HK1.out; have := HJ17.out; omega⟩, ⟨by (with_reducible repeat (first | refine blk_drewN ?_ _ | refine blk_drew ?_ | refine blk_alloc ?_ _)); refine blk_far ?_ NB120_123.out _; (with_reducible repeat (first | refine blk_drewN ?_ _ | refine blk_drew ?_ | refine blk_alloc ?_ _)); exact BK120.out⟩, ⟨by (with_reducible repeat (first | refine blk_drewN ?_ _ | refine blk_drew ?_ | refine blk_alloc ?_ _)); refine blk_put (cs := #[.int .i64 x124000_1, .int .i64 x124001_1, .float .f64 0, .float .f64 x124003_1, .float .f64 x124004_1]) ?_ 0 _ rfl; (with_reducible repeat (first | refine blk_drewN ?_ _ | refine blk_drew ?_ | refine blk_alloc ?_ _)); exact BK123.out⟩, ⟨by repeat (first | (with_reducible first | exact HB.out | apply below_alloc | apply pw_below_drewN | apply below_drew1 | refine below_set ?_ GE120.out | refine below_set ?_ GE123.out) | exact HB.out)⟩⟩
              · rw [if_neg c13] at H
                exact absurd H (by simp)
            · rw [if_neg c12] at H
              exact absurd H (by simp)
          · rw [if_neg c11] at H
            have c11b0 : decide (x21_1 < (l0.length : Int)) = false := decide_eq_false c11
            clear c11
            by_cases c47 : x124000_1 = 0
            · rw [if_pos c47] at H
              have c47b0 : (x124000_1 == 0) = true := beq_iff_eq.mpr c47
              have c47b1 : (x124000_1 != 0) = false := bne_eq_false_iff_eq.mpr c47
              clear c47
              simp only [Option.some.injEq, Prod.mk.injEq] at H
              obtain ⟨rfl, rfl, rfl, rfl, rfl, rfl⟩ := H
              have hnb48 := NB123_120.out
              have hnc48 := NB120_123.out
              have hcz49_0 : wr.cell? ⟨gb123, 0, none⟩ = some (.int .i64 x124000_1) := (blk_cell BK123.out 0).trans rfl
              have hcz49_1 : wr.cell? ⟨gb123, 1, none⟩ = some (.int .i64 x124001_1) := (blk_cell BK123.out 1).trans rfl
              have hcz49_2 : wr.cell? ⟨gb123, 2, none⟩ = some (.float .f64 0) := (blk_cell BK123.out 2).trans rfl
              have hcz49_3 : wr.cell? ⟨gb123, 3, none⟩ = some (.float .f64 x124003_1) := (blk_cell BK123.out 3).trans rfl
              have hcz49_4 : wr.cell? ⟨gb123, 4, none⟩ = some (.float .f64 x124004_1) := (blk_cell BK123.out 4).trans rfl
              have hfz49_0 := blk_frozen BK123.out 0
              have hfz49_1 := blk_frozen BK123.out 1
              have hfz49_2 := blk_frozen BK123.out 2
              have hfz49_3 := blk_frozen BK123.out 3
              have hfz49_4 := blk_frozen BK123.out 4
              have hcz50_0 : wr.cell? ⟨gb120, 0, none⟩ = some (.int .i64 0) := (blk_cell BK120.out 0).trans rfl
              have hcz50_1 : wr.cell? ⟨gb120, 1, none⟩ = some (.int .i64 0) := (blk_cell BK120.out 1).trans rfl
              have hcz50_2 : wr.cell? ⟨gb120, 2, none⟩ = some (.float .f64 0) := (blk_cell BK120.out 2).trans rfl
              have hcz50_3 : wr.cell? ⟨gb120, 3, none⟩ = some (.float .f64 0) := (blk_cell BK120.out 3).trans rfl
              have hcz50_4 : wr.cell? ⟨gb120, 4, none⟩ = some (.float .f64 0) := (blk_cell BK120.out 4).trans rfl
              have hfz50_0 := blk_frozen BK120.out 0
              have hfz50_1 := blk_frozen BK120.out 1
              have hfz50_2 := blk_frozen BK120.out 2
              have hfz50_3 := blk_frozen BK120.out 3
              have hfz50_4 := blk_frozen BK120.out 4
              go_wp2
              refine bodyPost_ret (results_ct rfl _ _ gb120 66 #[.int .i64 0, .int .i64 0, .float .f64 0, .float .f64 0, .float .f64 0] (0, 0) _ rfl (by (with_reducible repeat (first | refine blk_drewN ?_ _ | refine blk_drew ?_ | refine blk_alloc ?_ _)); refine blk_put (cs := #[.int .i64 0, .int .i64 0, .float .f64 0, .float .f64 0, .float .f64 0]) ?_ 4 _ rfl; (with_reducible repeat (first | refine blk_drewN ?_ _ | refine blk_drew ?_ | refine blk_alloc ?_ _)); refine blk_put (cs := #[.int .i64 0, .int .i64 0, .float .f64 0, .float .f64 0, .float .f64 0]) ?_ 3 _ rfl; (with_reducible repeat (first | refine blk_drewN ?_ _ | refine blk_drew ?_ | refine blk_alloc ?_ _)); refine blk_put (cs := #[.int .i64 0, .int .i64 0, .float .f64 0, .float .f64 0, .float .f64 0]) ?_ 2 _ rfl; (with_reducible repeat (first | refine blk_drewN ?_ _ | refine blk_drew ?_ | refine blk_alloc ?_ _)); refine blk_put (cs := #[.int .i64 0, .int .i64 0, .float .f64 0, .float .f64 0, .float .f64 0]) ?_ 1 _ rfl; (with_reducible repeat (first | refine blk_drewN ?_ _ | refine blk_drew ?_ | refine blk_alloc ?_ _)); refine blk_put (cs := #[.int .i64 0, .int .i64 0, .float .f64 0, .float .f64 0, .float .f64 0]) ?_ 0 _ rfl; (with_reducible repeat (first | refine blk_drewN ?_ _ | refine blk_drew ?_ | refine blk_alloc ?_ _)); exact BK120.out) Try.underlying66 rfl (by kernel_rfl)) rfl ?_
              exact ⟨by first | rfl | (simp [errW_none, errW_some] <;> rfl) | (simp [*, errW_none, errW_some] <;> rfl), by repeat (first | (with_reducible first | exact HB.out | apply below_alloc | apply pw_below_drewN | apply below_drew1 | refine below_set ?_ GE120.out | refine below_set ?_ GE123.out) | exact HB.out)⟩
            · rw [if_neg c47] at H
              have c47b0 : (x124000_1 == 0) = false := beq_eq_false_iff_ne.mpr c47
              have c47b1 : (x124000_1 != 0) = true := bne_iff_ne.mpr c47
              have hfz124_0 : ∀ W_ : World, (convert 3 35 (.int .i64 x124000_1)).run Try.prog W_ = .ok (.float .f64 (floatOfInt .f64 x124000_1)) W_ := fun W_ => run_convert_int_float W_ 3 35 .i64 .f64 x124000_1 (by rw [Try.underlying3]; rfl) Try.underlying35
              replace H := Option.bind_eq_some_iff.mp H
              obtain ⟨t125, HF_, H⟩ := H
              replace H : (some (x124000_1, x124001_1, t125, x124003_1, x124004_1, 0)) = some (r1, r2, r3, r4, r5, r6) := H
              have hfz51_0 : ∀ W_ : World, (binOp .quo 35 (.float .f64 x5_1) (.float .f64 (floatOfInt .f64 x124000_1))).run Try.prog W_ = .ok (.float .f64 t125) W_ := fun W_ => run_float_arith W_ .quo 35 .f64 x5_1 (floatOfInt .f64 x124000_1) t125 HF_
              clear HF_
              simp only [Option.some.injEq, Prod.mk.injEq] at H
              obtain ⟨rfl, rfl, rfl, rfl, rfl, rfl⟩ := H
              have hnb52 := NB123_120.out
              have hnc52 := NB120_123.out
              have hcz53_0 : wr.cell? ⟨gb123, 0, none⟩ = some (.int .i64 x124000_1) := (blk_cell BK123.out 0).trans rfl
              have hcz53_1 : wr.cell? ⟨gb123, 1, none⟩ = some (.int .i64 x124001_1) := (blk_cell BK123.out 1).trans rfl
              have hcz53_2 : wr.cell? ⟨gb123, 2, none⟩ = some (.float .f64 0) := (blk_cell BK123.out 2).trans rfl
              have hcz53_3 : wr.cell? ⟨gb123, 3, none⟩ = some (.float .f64 x124003_1) := (blk_cell BK123.out 3).trans rfl
              have hcz53_4 : wr.cell? ⟨gb123, 4, none⟩ = some (.float .f64 x124004_1) := (blk_cell BK123.out 4).trans rfl
              have hfz53_0 := blk_frozen BK123.out 0
              have hfz53_1 := blk_frozen BK123.out 1
              have hfz53_2 := blk_frozen BK123.out 2
              have hfz53_3 := blk_frozen BK123.out 3
              have hfz53_4 := blk_frozen BK123.out 4
              have hcz54_0 : wr.cell? ⟨gb120, 0, none⟩ = some (.int .i64 0) := (blk_cell BK120.out 0).trans rfl
              have hcz54_1 : wr.cell? ⟨gb120, 1, none⟩ = some (.int .i64 0) := (blk_cell BK120.out 1).trans rfl
              have hcz54_2 : wr.cell? ⟨gb120, 2, none⟩ = some (.float .f64 0) := (blk_cell BK120.out 2).trans rfl
              have hcz54_3 : wr.cell? ⟨gb120, 3, none⟩ = some (.float .f64 0) := (blk_cell BK120.out 3).trans rfl
              have hcz54_4 : wr.cell? ⟨gb120, 4, none⟩ = some (.float .f64 0) := (blk_cell BK120.out 4).trans rfl
              have hfz54_0 := blk_frozen BK120.out 0
              have hfz54_1 := blk_frozen BK120.out 1
              have hfz54_2 := blk_frozen BK120.out 2
              have hfz54_3 := blk_frozen BK120.out 3
              have hfz54_4 := blk_frozen BK120.out 4
              go_wp2
              refine bodyPost_ret (results_ct rfl _ _ gb120 66 #[.int .i64 x124000_1, .int .i64 x124001_1, .float .f64 t125, .float .f64 x124003_1, .float .f64 x124004_1] (0, 0) _ rfl (by (with_reducible repeat (first | refine blk_drewN ?_ _ | refine blk_drew ?_ | refine blk_alloc ?_ _)); refine blk_put (cs := #[.int .i64 x124000_1, .int .i64 x124001_1, .float .f64 t125, .float .f64 x124003_1, .float .f64 0]) ?_ 4 _ rfl; (with_reducible repeat (first | refine blk_drewN ?_ _ | refine blk_drew ?_ | refine blk_alloc ?_ _)); refine blk_put (cs := #[.int .i64 x124000_1, .int .i64 x124001_1, .float .f64 t125, .float .f64 0, .float .f64 0]) ?_ 3 _ rfl; (with_reducible repeat (first | refine blk_drewN ?_ _ | refine blk_drew ?_ | refine blk_alloc ?_ _)); refine blk_put (cs := #[.int .i64 x124000_1, .int .i64 x124001_1, .float .f64 0, .float .f64 0, .float .f64 0]) ?_ 2 _ rfl; (with_reducible repeat (first | refine blk_drewN ?_ _ | refine blk_drew ?_ | refine blk_alloc ?_ _)); refine blk_put (cs := #[.int .i64 x124000_1, .int .i64 0, .float .f64 0, .float .f64 0, .float .f64 0]) ?_ 1 _ rfl; (with_reducible repeat (first | refine blk_drewN ?_ _ | refine blk_drew ?_ | refine blk_alloc ?_ _)); refine blk_put (cs := #[.int .i64 0, .int .i64 0, .float .f64 0, .float .f64 0, .float .f64 0]) ?_ 0 _ rfl; (with_reducible repeat (first | refine blk_drewN ?_ _ | refine blk_drew ?_ | refine blk_alloc ?_ _)); refine blk_far ?_ NB120_123.out _; (with_reducible repeat (first | refine blk_drewN ?_ _ | refine blk_drew ?_ | refine blk_alloc ?_ _)); exact BK120.out) Try.underlying66 rfl (by kernel_rfl)) rfl ?_
              exact ⟨by first | rfl | (simp [errW_none, errW_some] <;> rfl) | (simp [*, errW_none, errW_some] <;> rfl), by repeat (first | (with_reducible first | exact HB.out | apply below_alloc | apply pw_below_drewN | apply below_drew1 | refine below_set ?_ GE120.out | refine below_set ?_ GE123.out) | exact HB.out)⟩
    · replace c5 := Bool.eq_false_iff.mpr c5
      subst c5
      have H1 : (some (0, 0, 0, 0, 0, 1)) = some (r1, r2, r3, r4, r5, r6) := by rw [if_neg (show ¬ (false = true) by decide)] at H; exact H
      clear H
      have H := H1
      clear H1
      simp only [Option.some.injEq, Prod.mk.injEq] at H
      obtain ⟨rfl, rfl, rfl, rfl, rfl, rfl⟩ := H
      go_enter Try.func28, Try.ntmps28
      go_wp2_with (first | ((with_reducible refine gate_dst (N := 2) rfl ?_); refine box_event ?hg (N := 2) ?hd (cs := #[.int .i64 0, .int .i64 0, .float .f64 0, .float .f64 0, .float .f64 0]) (t := 66) ?hr ?_; (case hd => rfl); (case hg => rfl); (case hr => first | (go_simp; done) | (go_simp; rfl)); intro gb120 hg w55 hbox hb; have n0_ := Aside0.mk (below_step (by repeat (first | (with_reducible first | exact HB.out | apply below_alloc | apply pw_below_drewN | apply below_drew1) | exact HB.out)) hb); have n1_ := Aside0.mk (hbox); have n2_ := Aside0.mk ((by rw [hg]; exact (below_size (by repeat (first | (with_reducible first | exact HB.out | apply below_alloc | apply pw_below_drewN | apply below_drew1) | exact HB.out))) : w.heap.size ≤ gb120)); have n3_ := Aside0.mk ((by rw [hg]; exact (below_size (by repeat (first | (with_reducible first | exact HB.out | apply below_alloc | apply pw_below_drewN | apply below_drew1) | exact HB.out))) : w.heap.size ≤ gb120)); clear HB; have HB := n0_; have BK120 := n1_; have GW120 := n2_; have GE120 := n3_; clear n0_ n1_ n2_ n3_; clear hb hbox hg) | ((with_reducible refine gate_callee (f := 82) rfl ?_); refine goesL_ (some 10) rfl rfl Try.func82 (by kernel_rfl) rfl #[.slice A0 l0.length c0] rfl (by (try simp only [List.map_toArray, List.map_cons, List.map_nil]); first | done | rfl | (simp only [List.length_drop, List.length_take]; rfl)) ?_; (with_reducible refine (impl_isList_float64.calls _ _ l0 true _ ?side1 ?side2 A2.out).mono ?_); (case side1 => repeat (first | exact (Kd.C_below HR0.out HB.out) | (with_reducible refine Kd.C_alloc ?_ _) | (with_reducible refine Kd.C_drewN ?_ _) | (with_reducible refine Kd.C_drew ?_))); (case side2 => exact HC0.out); rintro e w' ⟨rfl, ⟨nd, rfl⟩⟩; refine ⟨_, rfl, ?_⟩; (try (rw [drewN_self w55]; generalize hq_ : World.drewN w55 _ = w55; have n0_ : Aside0 (w55.heap[gb120]? = some (.cells #[.int .i64 0, .int .i64 0, .float .f64 0, .float .f64 0, .float .f64 0] 66 (0, 0))) := ⟨by rw [← hq_]; exact (by (with_reducible repeat (first | refine blk_drewN ?_ _ | refine blk_drew ?_ | refine blk_alloc ?_ _)); exact BK120.out)⟩; have n1_ : Aside0 (Below w.heap.size w w55) := ⟨by rw [← hq_]; exact (by repeat (first | (with_reducible first | exact HB.out | apply below_alloc | apply pw_below_drewN | apply below_drew1 | refine below_set ?_ GE120.out) | exact HB.out))⟩; clear BK120 HB hq_; have BK120 := n0_; have HB := n1_; clear n0_ n1_))) | ((with_reducible refine gate_callee (f := 83) rfl ?_); refine goesL_ (some 15) rfl rfl Try.func83 (by kernel_rfl) rfl #[.slice A0 l0.length c0] rfl (by (try simp only [List.map_toArray, List.map_cons, List.map_nil]); first | done | rfl | (simp only [List.length_drop, List.length_take]; rfl)) ?_; (with_reducible refine (impl_isTrace.calls k _ _ l0 false _ ?side1 ?side2 A4.out).mono ?_); (case side1 => repeat (first | exact (Kd.C_below HR0.out HB.out) | (with_reducible refine Kd.C_alloc ?_ _) | (with_reducible refine Kd.C_drewN ?_ _) | (with_reducible refine Kd.C_drew ?_))); (case side2 => exact HC0.out); rintro e w56 ⟨rfl, hb⟩; refine ⟨_, rfl, ?_⟩; have n0_ := Aside0.mk (blk_below (g := gb120) (o := .cells #[.int .i64 0, .int .i64 0, .float .f64 0, .float .f64 0, .float .f64 0] 66 (0, 0)) (by (with_reducible repeat (first | refine blk_drewN ?_ _ | refine blk_drew ?_ | refine blk_alloc ?_ _)); exact BK120.out) hb); have n1_ := Aside0.mk (below_step (by repeat (first | (with_reducible first | exact HB.out | apply below_alloc | apply pw_below_drewN | apply below_drew1 | refine below_set ?_ GE120.out) | exact HB.out)) hb); clear BK120; clear HB; have BK120 := n0_; have HB := n1_; clear n0_ n1_; (try clear hb); (try clear hb2); (try clear hk); (try clear hi); have hcz57_0 : w56.cell? ⟨gb120, 0, none⟩ = some (.int .i64 0) := (blk_cell BK120.out 0).trans rfl; have hcz57_1 : w56.cell? ⟨gb120, 1, none⟩ = some (.int .i64 0) := (blk_cell BK120.out 1).trans rfl; have hcz57_2 : w56.cell? ⟨gb120, 2, none⟩ = some (.float .f64 0) := (blk_cell BK120.out 2).trans rfl; have hcz57_3 : w56.cell? ⟨gb120, 3, none⟩ = some (.float .f64 0) := (blk_cell BK120.out 3).trans rfl; have hcz57_4 : w56.cell? ⟨gb120, 4, none⟩ = some (.float .f64 0) := (blk_cell BK120.out 4).trans rfl; have hfz57_0 := blk_frozen BK120.out 0; have hfz57_1 := blk_frozen BK120.out 1; have hfz57_2 := blk_frozen BK120.out 2; have hfz57_3 := blk_frozen BK120.out 3; have hfz57_4 := blk_frozen BK120.out 4))
      refine bodyPost_ret (results_ct rfl _ _ gb120 66 #[.int .i64 0, .int .i64 0, .float .f64 0, .float .f64 0, .float .f64 0] (0, 0) _ rfl (by (with_reducible repeat (first | refine blk_drewN ?_ _ | refine blk_drew ?_ | refine blk_alloc ?_ _)); refine blk_put (cs := #[.int .i64 0, .int .i64 0, .float .f64 0, .float .f64 0, .float .f64 0]) ?_ 4 _ rfl; (with_reducible repeat (first | refine blk_drewN ?_ _ | refine blk_drew ?_ | refine blk_alloc ?_ _)); refine blk_put (cs := #[.int .i64 0, .int .i64 0, .float .f64 0, .float .f64 0, .float .f64 0]) ?_ 3 _ rfl; (with_reducible repeat (first | refine blk_drewN ?_ _ | refine blk_drew ?_ | refine blk_alloc ?_ _)); refine blk_put (cs := #[.int .i64 0, .int .i64 0, .float .f64 0, .float .f64 0, .float .f64 0]) ?_ 2 _ rfl; (with_reducible repeat (first | refine blk_drewN ?_ _ | refine blk_drew ?_ | refine blk_alloc ?_ _)); refine blk_put (cs := #[.int .i64 0, .int .i64 0, .float .f64 0, .float .f64 0, .float .f64 0]) ?_ 1 _ rfl; (with_reducible repeat (first | refine blk_drewN ?_ _ | refine blk_drew ?_ | refine blk_alloc ?_ _)); refine blk_put (cs := #[.int .i64 0, .int .i64 0, .float .f64 0, .float .f64 0, .float .f64 0]) ?_ 0 _ rfl; (with_reducible repeat (first | refine blk_drewN ?_ _ | refine blk_drew ?_ | refine blk_alloc ?_ _)); exact BK120.out) Try.underlying66 rfl (by kernel_rfl)) rfl ?_
      exact ⟨by first | rfl | (simp [errW_none, errW_some] <;> rfl) | (simp [*, errW_none, errW_some] <;> rfl), by repeat (first | (with_reducible first | exact HB.out | apply below_alloc | apply pw_below_drewN | apply below_drew1 | refine below_set ?_ GE120.out) | exact HB.out)⟩
  · replace c3 := Bool.eq_false_iff.mpr c3
    subst c3
    have H1 : (some (0, 0, 0, 0, 0, 2)) = some (r1, r2, r3, r4, r5, r6) := by rw [if_neg (show ¬ (false = true) by decide)] at H; exact H
    clear H
    have H := H1
    clear H1
    simp only [Option.some.injEq, Prod.mk.injEq] at H
    obtain ⟨rfl, rfl, rfl, rfl, rfl, rfl⟩ := H
    go_enter Try.func28, Try.ntmps28
    go_wp2_with (first | ((with_reducible refine gate_dst (N := 2) rfl ?_); refine box_event ?hg (N := 2) ?hd (cs := #[.int .i64 0, .int .i64 0, .float .f64 0, .float .f64 0, .float .f64 0]) (t := 66) ?hr ?_; (case hd => rfl); (case hg => rfl); (case hr => first | (go_simp; done) | (go_simp; rfl)); intro gb120 hg w58 hbox hb; have n0_ := Aside0.mk (below_step (by repeat (first | (with_reducible first | exact HB.out | apply below_alloc | apply pw_below_drewN | apply below_drew1) | exact HB.out)) hb); have n1_ := Aside0.mk (hbox); have n2_ := Aside0.mk ((by rw [hg]; exact (below_size (by repeat (first | (with_reducible first | exact HB.out | apply below_alloc | apply pw_below_drewN | apply below_drew1) | exact HB.out))) : w.heap.size ≤ gb120)); have n3_ := Aside0.mk ((by rw [hg]; exact (below_size (by repeat (first | (with_reducible first | exact HB.out | apply below_alloc | apply pw_below_drewN | apply below_drew1) | exact HB.out))) : w.heap.size ≤ gb120)); clear HB; have HB := n0_; have BK120 := n1_; have GW120 := n2_; have GE120 := n3_; clear n0_ n1_ n2_ n3_; clear hb hbox hg) | ((with_reducible refine gate_callee (f := 82) rfl ?_); refine goesL_ (some 10) rfl rfl Try.func82 (by kernel_rfl) rfl #[.slice A0 l0.length c0] rfl (by (try simp only [List.map_toArray, List.map_cons, List.map_nil]); first | done | rfl | (simp only [List.length_drop, List.length_take]; rfl)) ?_; (with_reducible refine (impl_isList_float64.calls _ _ l0 false _ ?side1 ?side2 A2.out).mono ?_); (case side1 => repeat (first | exact (Kd.C_below HR0.out HB.out) | (with_reducible refine Kd.C_alloc ?_ _) | (with_reducible refine Kd.C_drewN ?_ _) | (with_reducible refine Kd.C_drew ?_))); (case side2 => exact HC0.out); rintro e w' ⟨rfl, ⟨nd, rfl⟩⟩; refine ⟨_, rfl, ?_⟩; (try (rw [drewN_self w58]; generalize hq_ : World.drewN w58 _ = w58; have n0_ : Aside0 (w58.heap[gb120]? = some (.cells #[.int .i64 0, .int .i64 0, .float .f64 0, .float .f64 0, .float .f64 0] 66 (0, 0))) := ⟨by rw [← hq_]; exact (by (with_reducible repeat (first | refine blk_drewN ?_ _ | refine blk_drew ?_ | refine blk_alloc ?_ _)); exact BK120.out)⟩; have n1_ : Aside0 (Below w.heap.size w w58) := ⟨by rw [← hq_]; exact (by repeat (first | (with_reducible first | exact HB.out | apply below_alloc | apply pw_below_drewN | apply below_drew1 | refine below_set ?_ GE120.out) | exact HB.out))⟩; clear BK120 HB hq_; have BK120 := n0_; have HB := n1_; clear n0_ n1_)); have hcz59_0 : w58.cell? ⟨gb120, 0, none⟩ = some (.int .i64 0) := (blk_cell BK120.out 0).trans rfl; have hcz59_1 : w58.cell? ⟨gb120, 1, none⟩ = some (.int .i64 0) := (blk_cell BK120.out 1).trans rfl; have hcz59_2 : w58.cell? ⟨gb120, 2, none⟩ = some (.float .f64 0) := (blk_cell BK120.out 2).trans rfl; have hcz59_3 : w58.cell? ⟨gb120, 3, none⟩ = some (.float .f64 0) := (blk_cell BK120.out 3).trans rfl; have hcz59_4 : w58.cell? ⟨gb120, 4, none⟩ = some (.float .f64 0) := (blk_cell BK120.out 4).trans rfl; have hfz59_0 := blk_frozen BK120.out 0; have hfz59_1 := blk_frozen BK120.out 1; have hfz59_2 := blk_frozen BK120.out 2; have hfz59_3 := blk_frozen BK120.out 3; have hfz59_4 := blk_frozen BK120.out 4))
    refine bodyPost_ret (results_ct rfl _ _ gb120 66 #[.int .i64 0, .int .i64 0, .float .f64 0, .float .f64 0, .float .f64 0] (0, 0) _ rfl (by (with_reducible repeat (first | refine blk_drewN ?_ _ | refine blk_drew ?_ | refine blk_alloc ?_ _)); refine blk_put (cs := #[.int .i64 0, .int .i64 0, .float .f64 0, .float .f64 0, .float .f64 0]) ?_ 4 _ rfl; (with_reducible repeat (first | refine blk_drewN ?_ _ | refine blk_drew ?_ | refine blk_alloc ?_ _)); refine blk_put (cs := #[.int .i64 0, .int .i64 0, .float .f64 0, .float .f64 0, .float .f64 0]) ?_ 3 _ rfl; (with_reducible repeat (first | refine blk_drewN ?_ _ | refine blk_drew ?_ | refine blk_alloc ?_ _)); refine blk_put (cs := #[.int .i64 0, .int .i64 0, .float .f64 0, .float .f64 0, .float .f64 0]) ?_ 2 _ rfl; (with_reducible repeat (first | refine blk_drewN ?_ _ | refine blk_drew ?_ | refine blk_alloc ?_ _)); refine blk_put (cs := #[.int .i64 0, .int .i64 0, .float .f64 0, .float .f64 0, .float .f64 0]) ?_ 1 _ rfl; (with_reducible repeat (first | refine blk_drewN ?_ _ | refine blk_drew ?_ | refine blk_alloc ?_ _)); refine blk_put (cs := #[.int .i64 0, .int .i64 0, .float .f64 0, .float .f64 0, .float .f64 0]) ?_ 0 _ rfl; (with_reducible repeat (first | refine blk_drewN ?_ _ | refine blk_drew ?_ | refine blk_alloc ?_ _)); exact BK120.out) Try.underlying66 rfl (by kernel_rfl)) rfl ?_
    exact ⟨by first | rfl | (simp [errW_none, errW_some] <;> rfl) | (simp [*, errW_none, errW_some] <;> rfl), by repeat (first | (with_reducible first | exact HB.out | apply below_alloc | apply pw_below_drewN | apply below_drew1 | refine below_set ?_ GE120.out) | exact HB.out)⟩

/-! ### spec_l22Within: function 87 -/
def spec_l22Within.f (a0 : Nat) (a1 : Nat) (a2 : Nat) : Option (Bool) := if (fGe .f64 a0 a1) = true then (some (fLe .f64 a0 a2)) else (some false)
set_option maxHeartbeats 8000000 in
set_option maxRecDepth 100000 in
theorem spec_l22Within.calls (a0 : Nat) (a1 : Nat) (a2 : Nat) (r : Bool) (w : World) (h : spec_l22Within.f a0 a1 a2 = some r) :
    Calls Try.prog 87 #[.float .f64 a0, .float .f64 a1, .float .f64 a2] w fun e w' => e = .returned (.bool r) ∧ Drawn0 w w' := by
  have H : (if (fGe .f64 a0 a1) = true then (some (fLe .f64 a0 a2)) else (some false)) = some r := h
  clear h
  by_cases c4 : (fGe .f64 a0 a1) = true
  · rw [if_pos c4] at H
    have c4b0 : (fGe .f64 a0 a1) = true := c4
    clear c4
    obtain rfl := Option.some.inj H
    go_enter Try.func87, Try.ntmps87
    go_wp2
    go_ret
    exact ⟨by first | rfl | (simp; done) | (simp [*]; done), by repeat (first | exact Drawn0.refl _ | apply Drawn0.step)⟩
  · rw [if_neg c4] at H
    have c4b0 : (fGe .f64 a0 a1) = false := by simpa using c4
    clear c4
    obtain rfl := Option.some.inj H
    go_enter Try.func87, Try.ntmps87
    go_wp2
    go_ret
    exact ⟨by first | rfl | (simp; done) | (simp [*]; done), by repeat (first | exact Drawn0.refl _ | apply Drawn0.step)⟩

/-! ### spec_l22There: function 89 -/
def spec_l22There.f (a0 : Nat) : Option (Bool) := some (fEq .f64 a0 a0)
set_option maxHeartbeats 8000000 in
set_option maxRecDepth 100000 in
theorem spec_l22There.calls (a0 : Nat) (r : Bool) (w : World) (h : spec_l22There.f a0 = some r) :
    Calls Try.prog 89 #[.float .f64 a0] w fun e w' => e = .returned (.bool r) ∧ Drawn0 w w' := by
  have H : (some (fEq .f64 a0 a0)) = some r := h
  clear h
  obtain rfl := Option.some.inj H
  go_enter Try.func89, Try.ntmps89
  go_wp2
  go_ret
  exact ⟨by first | rfl | (simp; done) | (simp [*]; done), by repeat (first | exact Drawn0.refl _ | apply Drawn0.step)⟩

/-! ### spec_l22Trace: function 86 -/
def spec_l22Trace.l0 : Nat → List Nat → Int → Option (Bool)
  | 0, _, _ => none
  | k + 1, x0, x3 => if x3 < (x0.length : Int) then (if 0 ≤ x3 then ((spec_l22There.f (rdOf (0 : Nat) x0 x3)).bind fun t135 => (if t135 = true then ((spec_l22Within.f (rdOf (0 : Nat) x0 x3) 13875379345695965184 4652007308841189376).bind fun t137 => (if t137 = true then (spec_l22Trace.l0 k x0 (wrap64 (x3 + 1))) else (some false))) else (spec_l22Trace.l0 k x0 (wrap64 (x3 + 1))))) else (none)) else (some true)
def spec_l22Trace.f (k : Nat) (l0 : List Nat) : Option (Bool) := if (l0.length : Int) > 200 then (some false) else (spec_l22Trace.l0 k l0 0)
theorem spec_l22Trace.mono_l : ∀ k, (∀ y0 y1, LeO (spec_l22Trace.l0 k y0 y1) (spec_l22Trace.l0 (k + 1) y0 y1))
  | 0 => fun _ _ r h => by simp [spec_l22Trace.l0] at h
  | k + 1 => by
    have ih0 := spec_l22Trace.mono_l k
    · intro y0 y1
      unfold spec_l22Trace.l0
      repeat' first
      | (with_reducible exact ih0 _ _)
      | (with_reducible exact LeO.refl _)
      | (with_reducible exact LeO.none _)
      | (with_reducible refine LeO.ite ?_ ?_)
      | (with_reducible refine LeO.bind ?_ (fun _ => ?_))
      | exact ih0 _ _
      | exact LeO.none _
      | refine LeO.ite ?_ ?_
      | refine LeO.bind ?_ (fun _ => ?_)
theorem spec_l22Trace.mono : ∀ a0 k, LeO (spec_l22Trace.f k a0) (spec_l22Trace.f (k + 1) a0) := by
  intro a0 k
  have ih0 := spec_l22Trace.mono_l k
  unfold spec_l22Trace.f
  repeat' first
      | (with_reducible exact ih0 _ _)
      | (with_reducible exact LeO.refl _)
      | (with_reducible exact LeO.none _)
      | (with_reducible refine LeO.ite ?_ ?_)
      | (with_reducible refine LeO.bind ?_ (fun _ => ?_))
      | exact ih0 _ _
      | exact LeO.none _
      | refine LeO.ite ?_ ?_
      | refine LeO.bind ?_ (fun _ => ?_)
set_option maxHeartbeats 8000000 in
set_option maxRecDepth 100000 in
theorem spec_l22Trace.calls (k : Nat) (A0 : Option Addr) (c0 : Nat) (l0 : List Nat) (r : Bool) (w : World) (hr0 : Kd.C (Opens.flt .f64) w A0 l0.length l0) (hc0 : l0.length ≤ c0) (h : spec_l22Trace.f k l0 = some r) :
    Calls Try.prog 86 #[.slice A0 l0.length c0] w fun e w' => e = .returned (.bool r) ∧ Drawn0 w w' := by
  have HR0 := Aside0.mk hr0
  have HC0 := Aside0.mk hc0
  clear hr0 hc0
  have H : (if (l0.length : Int) > 200 then (some false) else (spec_l22Trace.l0 k l0 0)) = some r := h
  clear h
  by_cases c2 : (l0.length : Int) > 200
  · rw [if_pos c2] at H
    have c2b0 : decide (200 < (l0.length : Int)) = true := decide_eq_true c2
    have c2b1 : decide (200 < l0.length) = true := decide_eq_true (by omega)
    clear c2
    obtain rfl := Option.some.inj H
    go_enter Try.func86, Try.ntmps86
    go_wp2
    go_ret
    exact ⟨by first | rfl | (simp; done) | (simp [*]; done), by repeat (first | exact Drawn0.refl _ | apply Drawn0.step)⟩
  · rw [if_neg c2] at H
    have c2b0 : decide (200 < (l0.length : Int)) = false := decide_eq_false c2
    have c2b1 : decide (200 < l0.length) = false := decide_eq_false (by omega)
    clear c2
    have H' := Aside0.mk H
    clear H
    go_enter Try.func86, Try.ntmps86
    go_wp2
    go_loopg [3] k (fun kq v3 w' => ∃ (x3_1 : Int), v3 = .int .i64 x3_1 ∧ Aside0 (spec_l22Trace.l0 kq l0 x3_1 = some r) ∧ Aside0 (kq ≤ k) ∧ Drawn0 w w')
    case atStart => exact ⟨(0), (by first | rfl | (simp; done) | (simp [*]; done)), H', ⟨Nat.le_refl _⟩, by repeat (first | exact Drawn0.refl _ | apply Drawn0.step)⟩
    case round =>
      clear H'
      try clear c2
      try clear c2b0
      try clear c2b1
      try clear p2
      obtain ⟨x3_1, rfl, HA, HK1, ⟨m1, rfl⟩⟩ := hrel
      cases gk with
      | zero => exact absurd HA.out (by simp [spec_l22Trace.l0])
      | succ k1 =>
        have H := HA.out
        clear HA
        simp only [spec_l22Trace.l0] at H
        by_cases c3 : x3_1 < (l0.length : Int)
        · rw [if_pos c3] at H
          have c3b0 : decide (x3_1 < (l0.length : Int)) = true := decide_eq_true c3
          clear c3
          by_cases c4 : 0 ≤ x3_1
          · rw [if_pos c4] at H
            have c4b0 : decide (0 ≤ x3_1) = true := decide_eq_true c4
            clear c4
            replace H := Option.bind_eq_some_iff.mp H
            obtain ⟨t135, A50, H⟩ := H
            replace H : (if t135 = true then ((spec_l22Within.f (rdOf (0 : Nat) l0 x3_1) 13875379345695965184 4652007308841189376).bind fun t137 => (if t137 = true then (spec_l22Trace.l0 k1 l0 (wrap64 (x3_1 + 1))) else (some false))) else (spec_l22Trace.l0 k1 l0 (wrap64 (x3_1 + 1)))) = some r := H
            have A5 := Aside0.mk A50
            clear A50
            by_cases c6 : t135 = true
            · subst c6
              have H1 : ((spec_l22Within.f (rdOf (0 : Nat) l0 x3_1) 13875379345695965184 4652007308841189376).bind fun t137 => (if t137 = true then (spec_l22Trace.l0 k1 l0 (wrap64 (x3_1 + 1))) else (some false))) = some r := by rw [if_pos rfl] at H; exact H
              clear H
              have H := H1
              clear H1
              replace H := Option.bind_eq_some_iff.mp H
              obtain ⟨t137, A70, H⟩ := H
              replace H : (if t137 = true then (spec_l22Trace.l0 k1 l0 (wrap64 (x3_1 + 1))) else (some false)) = some r := H
              have A7 := Aside0.mk A70
              clear A70
              by_cases c8 : t137 = true
              · subst c8
                have H1 : (spec_l22Trace.l0 k1 l0 (wrap64 (x3_1 + 1))) = some r := by rw [if_pos rfl] at H; exact H
                clear H
                have H := H1
                clear H1
                have H' := Aside0.mk H
                clear H
                have p134 : 0 ≤ (x3_1 : Int) := of_decide_eq_true (by first | (with_reducible assumption) | assumption)
                have q134 : x3_1 < (l0.length : Int) := of_decide_eq_true (by first | (with_reducible assumption) | assumption)
                obtain ⟨ad134, e134, hx134_0⟩ := Opens.at_flt HR0.out x3_1 p134 q134
                cases e134
                replace p134 := eq_true p134
                replace q134 := eq_true q134
                go_wp2_with (first | ((with_reducible refine gate_callee (f := 89) rfl ?_); refine goesL_ (some 17) rfl rfl Try.func89 (by kernel_rfl) rfl #[.float .f64 (rdOf (0 : Nat) l0 x3_1)] rfl (by (try simp only [List.map_toArray, List.map_cons, List.map_nil]); first | done | rfl | (simp only [List.length_drop, List.length_take]; rfl)) ?_; (with_reducible refine (spec_l22There.calls (rdOf (0 : Nat) l0 x3_1) true _ A5.out).mono ?_); rintro e w' ⟨rfl, ⟨nd, rfl⟩⟩; refine ⟨_, rfl, ?_⟩; have p136 : 0 ≤ (x3_1 : Int) := of_decide_eq_true (by first | (with_reducible assumption) | assumption); have q136 : x3_1 < (l0.length : Int) := of_decide_eq_true (by first | (with_reducible assumption) | assumption); obtain ⟨ad136, e136, hx136_0⟩ := Opens.at_flt HR0.out x3_1 p136 q136; obtain rfl : ad134 = ad136 := (by injection e136); replace p136 := eq_true p136; replace q136 := eq_true q136) | (go_at_call 87; (with_reducible refine (spec_l22Within.calls (rdOf (0 : Nat) l0 x3_1) 13875379345695965184 4652007308841189376 true _ A7.out).mono ?_); rintro e w' ⟨rfl, ⟨nd, rfl⟩⟩))
                go_roundg k1
                case measure => have := HK1.out; omega
                case rel => exact ⟨(wrap64 (x3_1 + 1)), (by first | rfl | (simp; done) | (simp [*]; done)), H', ⟨by have := HK1.out; omega⟩, by repeat (first | exact Drawn0.refl _ | apply Drawn0.step)⟩
              · replace c8 := Bool.eq_false_iff.mpr c8
                subst c8
                have H1 : (some false) = some r := by rw [if_neg (show ¬ (false = true) by decide)] at H; exact H
                clear H
                have H := H1
                clear H1
                obtain rfl := Option.some.inj H
                have p134 : 0 ≤ (x3_1 : Int) := of_decide_eq_true (by first | (with_reducible assumption) | assumption)
                have q134 : x3_1 < (l0.length : Int) := of_decide_eq_true (by first | (with_reducible assumption) | assumption)
                obtain ⟨ad134, e134, hx134_0⟩ := Opens.at_flt HR0.out x3_1 p134 q134
                cases e134
                replace p134 := eq_true p134
                replace q134 := eq_true q134
                go_wp2_with (first | ((with_reducible refine gate_callee (f := 89) rfl ?_); refine goesL_ (some 17) rfl rfl Try.func89 (by kernel_rfl) rfl #[.float .f64 (rdOf (0 : Nat) l0 x3_1)] rfl (by (try simp only [List.map_toArray, List.map_cons, List.map_nil]); first | done | rfl | (simp only [List.length_drop, List.length_take]; rfl)) ?_; (with_reducible refine (spec_l22There.calls (rdOf (0 : Nat) l0 x3_1) true _ A5.out).mono ?_); rintro e w' ⟨rfl, ⟨nd, rfl⟩⟩; refine ⟨_, rfl, ?_⟩; have p136 : 0 ≤ (x3_1 : Int) := of_decide_eq_true (by first | (with_reducible assumption) | assumption); have q136 : x3_1 < (l0.length : Int) := of_decide_eq_true (by first | (with_reducible assumption) | assumption); obtain ⟨ad136, e136, hx136_0⟩ := Opens.at_flt HR0.out x3_1 p136 q136; obtain rfl : ad134 = ad136 := (by injection e136); replace p136 := eq_true p136; replace q136 := eq_true q136) | (go_at_call 87; (with_reducible refine (spec_l22Within.calls (rdOf (0 : Nat) l0 x3_1) 13875379345695965184 4652007308841189376 false _ A7.out).mono ?_); rintro e w' ⟨rfl, ⟨nd, rfl⟩⟩))
                go_ret
                exact ⟨by first | rfl | (simp; done) | (simp [*]; done), by repeat (first | exact Drawn0.refl _ | apply Drawn0.step)⟩
            · replace c6 := Bool.eq_false_iff.mpr c6
              subst c6
              have H1 : (spec_l22Trace.l0 k1 l0 (wrap64 (x3_1 + 1))) = some r := by rw [if_neg (show ¬ (false = true) by decide)] at H; exact H
              clear H
              have H := H1
              clear H1
              have H' := Aside0.mk H
              clear H
              have p134 : 0 ≤ (x3_1 : Int) := of_decide_eq_true (by first | (with_reducible assumption) | assumption)
              have q134 : x3_1 < (l0.length : Int) := of_decide_eq_true (by first | (with_reducible assumption) | assumption)
              obtain ⟨ad134, e134, hx134_0⟩ := Opens.at_flt HR0.out x3_1 p134 q134
              cases e134
              replace p134 := eq_true p134
              replace q134 := eq_true q134
              go_wp2_with (first | ((with_reducible refine gate_callee (f := 89) rfl ?_); refine goesL_ (some 17) rfl rfl Try.func89 (by kernel_rfl) rfl #[.float .f64 (rdOf (0 : Nat) l0 x3_1)] rfl (by (try simp only [List.map_toArray, List.map_cons, List.map_nil]); first | done | rfl | (simp only [List.length_drop, List.length_take]; rfl)) ?_; (with_reducible refine (spec_l22There.calls (rdOf (0 : Nat) l0 x3_1) false _ A5.out).mono ?_); rintro e w' ⟨rfl, ⟨nd, rfl⟩⟩; refine ⟨_, rfl, ?_⟩))
              go_roundg k1
              case measure => have := HK1.out; omega
              case rel => exact ⟨(wrap64 (x3_1 + 1)), (by first | rfl | (simp; done) | (simp [*]; done)), H', ⟨by have := HK1.out; omega⟩, by repeat (first | exact Drawn0.refl _ | apply Drawn0.step)⟩
          · rw [if_neg c4] at H
            exact absurd H (by simp)
        · rw [if_neg c3] at H
          have c3b0 : decide (x3_1 < (l0.length : Int)) = false := decide_eq_false c3
          clear c3
          obtain rfl := Option.some.inj H
          go_wp2
          go_ret
          exact ⟨by first | rfl | (simp; done) | (simp [*]; done), by repeat (first | exact Drawn0.refl _ | apply Drawn0.step)⟩

end Go.Proofs.Ytdgaaoeicijemaa.G
