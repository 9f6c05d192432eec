-- squeezed
-- made by pp.py (wip/tools) out of the translation; Lean checks it
import Derived.Test.YtojncbpeeboooaaU0
import Derived.Test.YtojncbpeeboooaaU11
import Derived.Test.YtojncbpeeboooaaU13
namespace Go.Proofs.Ytojncbpeeboooaa.U
open Go.RowKit Go.Proofs.YtojncbpeeboooaaW.PrintWords Go.Proofs.YtojncbpeeboooaaW.PrintLast Go.Proofs.YtojncbpeeboooaaW.PrintMore
attribute [local go_sem] max2_int min2_int max_two min_two max_three min_three max_four min_four   -- for this text's walks alone
set_option linter.unusedVariables false
set_option linter.unusedSimpArgs false


/-! ### spec_BestRoster: function 32 -/
def spec_BestRoster.j0 : Nat → List (S139) → List (S72) → Bool → Option (List Int × Int × Int)
 | 0, _, _, _ => none
 | k + 1, x0, x1, x14 => if x14 = true then (some (([] : List Int), 0, 2)) else ((spec_ShiftsOK.f k x0 x1).bind fun t244 => (if t244 = true then ((spec_l21Search_try.f k x0 x1 ([] : List Int) 0 false (([] : List Int))).bind fun bt249 => (if bt249.2.2 = true then (some (bt249.1, bt249.2.1, 0)) else (some (([] : List Int), 0, 8)))) else (some (([] : List Int), 0, 1))))
def spec_BestRoster.f (k : Nat) (l0 : List (S139)) (l1 : List (S72)) : Option (List Int × Int × Int) := if (l0.length : Int) > 4096 then (spec_BestRoster.j0 k l0 l1 true) else (spec_BestRoster.j0 k l0 l1 (decide ((l1.length : Int) > 4096)))
theorem spec_BestRoster.mono_l : ∀ k, (∀ y0 y1 y2, LeO (spec_BestRoster.j0 k y0 y1 y2) (spec_BestRoster.j0 (k + 1) y0 y1 y2))
 | 0 => fun _ _ _ r h => by simp [spec_BestRoster.j0] at h
 | k + 1 => by
  have ih0 := spec_BestRoster.mono_l k
  ·intro y0 y1 y2
   unfold spec_BestRoster.j0
   repeat' first
   | (with_reducible exact ih0 _ _ _)
   | (with_reducible exact spec_ShiftsOK.mono _ _ _)
   | (with_reducible exact spec_l21Search_try.mono _ _ _ _ _ _ _)
   | (with_reducible exact LeO.refl _)
   | (with_reducible exact LeO.none _)
   | (with_reducible refine LeO.ite ?_ ?_)
   | (with_reducible refine LeO.bind ?_ (fun _ => ?_))
   | exact ih0 _ _ _
   | exact spec_ShiftsOK.mono _ _ _
   | exact spec_l21Search_try.mono _ _ _ _ _ _ _
   | exact LeO.none _
   | refine LeO.ite ?_ ?_
   | refine LeO.bind ?_ (fun _ => ?_)
theorem spec_BestRoster.mono : ∀ a0 a1 k, LeO (spec_BestRoster.f k a0 a1) (spec_BestRoster.f (k + 1) a0 a1) := by
 intro a0 a1 k
 have ih0 := spec_BestRoster.mono_l k
 unfold spec_BestRoster.f
 repeat' first
   | (with_reducible exact ih0 _ _ _)
   | (with_reducible exact spec_ShiftsOK.mono _ _ _)
   | (with_reducible exact spec_l21Search_try.mono _ _ _ _ _ _ _)
   | (with_reducible exact LeO.refl _)
   | (with_reducible exact LeO.none _)
   | (with_reducible refine LeO.ite ?_ ?_)
   | (with_reducible refine LeO.bind ?_ (fun _ => ?_))
   | exact ih0 _ _ _
   | exact spec_ShiftsOK.mono _ _ _
   | exact spec_l21Search_try.mono _ _ _ _ _ _ _
   | exact LeO.none _
   | refine LeO.ite ?_ ?_
   | refine LeO.bind ?_ (fun _ => ?_)
def spec_BestRoster.T9 : Bool × List (List Nat × List Nat) := (true, [([], []), ([0], [0]), ([1], [1]), ([2], [2]), ([], []), ([4], [4]), ([5], [5]), ([6], [6]), ([3, 7], [3, 7]), ([8, 0, 1, 2, 3, 4, 5, 6, 7, 8], [8]), ([9, 0, 1, 2, 3, 4, 5, 6, 7, 8, 9], [])])
def spec_BestRoster.B9 : List Nat := [0, 1, 3, 7, 0, 16, 48, 112, 255, 511, 1023]
theorem spec_BestRoster.tab9 : rtab .any (opsOf Try.f32 9) = spec_BestRoster.T9 := by kernel_rfl
theorem spec_BestRoster.bits9 : waitsOk spec_BestRoster.T9.2 spec_BestRoster.B9 = true := by kernel_rfl
set_option maxHeartbeats 64000000 in
set_option maxRecDepth 100000 in
theorem spec_BestRoster.calls (k : Nat) (A0 : Option Addr) (c0 : Nat) (l0 : List (S139)) (A1 : Option Addr) (c1 : Nat) (l1 : List (S72)) (r1 : List Int) (r2 : Int) (r3 : Int) (w : World) (hr0 : Kd.C k139 w A0 l0.length l0) (hc0 : l0.length ≤ c0) (hr1 : Kd.C k72 w A1 l1.length l1) (hc1 : l1.length ≤ c1) (h : spec_BestRoster.f k l0 l1 = some (r1, r2, r3)) :
  Calls Try.prog 32 #[.slice A0 l0.length c0, .slice A1 l1.length c1] w fun e w' => ∃ v0_ : Value, e = .returned (.tuple #[.agg #[v0_, .int .i64 r2], .int .i64 r3]) ∧ Kd.R (Kd.int .i64) 3 w' w.heap.size (fun _ => True) v0_ r1 ∧ Below w.heap.size w w' := by
 have hu64 := Try.underlying64
 have hu148 := Try.underlying148
 obtain ⟨HR0, HC0, HR1, HC1, HB⟩ := zD5 hr0 hc0 hr1 hc1 (Below.refl w.heap.size w)
 clear hr0 hc0 hr1 hc1
 have H : (if (l0.length : Int) > 4096 then (spec_BestRoster.j0 k l0 l1 true) else (spec_BestRoster.j0 k l0 l1 (decide ((l1.length : Int) > 4096)))) = some (r1, r2, r3) := h
 clear h
 have HC3 := zb H
 clear H
 go_enter Try.func32, Try.ntmps32
 go_upto_region 1 with (first | ((with_reducible refine gate_dst (N := 4) rfl ?_); (try (refine gate_guard (by rfl) ?_; dsimp only)); refine box_event ?hg (N := 4) ?hd (cs := #[.slice none 0 0, .int .i64 0]) (t := 64) ?hr ?_; (case hd => rfl); (case hg => rfl); (case hr => exact zH117); intro gb243 hg w4 hbox hb; have n_ := zA_ (zb (zp zG77 hb)) (zA_ (zb (hbox)) (zA_ (zN1 w.heap.size hg (zo zG77)) (zN1 w.heap.size hg (zo zG77)))); clear HB; obtain ⟨HB, BK243, GW243, GE243⟩ := n_; clear hb hbox hg))
 (try simp only [Act.put, List.setIfInBounds_toArray, List.set_cons_zero, List.set_cons_succ])
 go_cut [14] (fun v14 wc => ∃ (kq : Nat) (x14_2 : Bool), v14 = .bool x14_2 ∧ Aside0 (spec_BestRoster.j0 kq l0 l1 x14_2 = some (r1, r2, r3)) ∧ Aside0 (kq ≤ k) ∧ Aside0 (wc.heap[gb243]? = some (.cells #[(.slice none 0 0), .int .i64 0] 64 (0, 0))) ∧ Aside0 (Below w.heap.size w wc))
 case first =>
  have H := HC3.out
  clear HC3
  by_cases c5 : (l0.length : Int) > 4096
  rotate_left
  ·rw [if_neg c5] at H
   have c5b0 : decide (4096 < (l0.length : Int)) = false := decide_eq_false c5
   have c5b1 : decide (4096 < l0.length) = false := decide_eq_false (by omega)
   clear c5
   (first | rw [c5b0] | (simp only [i64_w, i32_w]; rw [c5b0]) | skip)
   have H' := zb H
   clear H
   go_wp2
   go_meet
   case rel => exact ⟨_, (decide ((l1.length : Int) > 4096)), zG100, H', ⟨zH118⟩, ⟨by (with_reducible repeat (first | refine zf ?_ _ | refine zi ?_ | refine zg ?_ _)); exact BK243.out⟩, ⟨zH69⟩⟩
  rw [if_pos c5] at H
  have c5b0 : decide (4096 < (l0.length : Int)) = true := decide_eq_true c5
  have c5b1 : decide (4096 < l0.length) = true := decide_eq_true (by omega)
  clear c5
  (first | rw [c5b0] | (simp only [i64_w, i32_w]; rw [c5b0]) | skip)
  have H' := zb H
  clear H
  go_wp2
  go_meet
  case rel => exact ⟨_, (true), zG100, H', ⟨zH118⟩, ⟨by (with_reducible repeat (first | refine zf ?_ _ | refine zi ?_ | refine zg ?_ _)); exact BK243.out⟩, ⟨zH69⟩⟩
 case rest =>
  clear HC3
  try clear c1
  try clear c5
  try clear c5b0
  try clear c5b1
  obtain ⟨kq, x14_2, rfl, HA, HJ2, BK243, HB⟩ := hcut
  cases kq with
  | zero => exact absurd HA.out (by simp [spec_BestRoster.j0])
  | succ kj2 =>
   have H := HA.out
   clear HA
   simp only [spec_BestRoster.j0] at H
   by_cases c6 : x14_2 = true
   ·subst c6
    have H1 : (some (([] : List Int), 0, 2)) = some (r1, r2, r3) := by rw [if_pos rfl] at H; exact H
    clear H
    have H := H1
    clear H1
    simp only [Option.some.injEq, Prod.mk.injEq] at H
    obtain ⟨rfl, rfl, rfl⟩ := H
    obtain ⟨hcz7_0, hcz7_1, hfz7_0, hfz7_1⟩ := zB2 BK243.out
    go_wp2
    refine bodyPost_ret (results_ct rfl _ _ gb243 64 #[.slice none 0 0, .int .i64 0] (0, 0) _ rfl zK130 Try.underlying64 rfl zG101) rfl ?_
    exact zH15
   replace c6 := Bool.eq_false_iff.mpr c6
   subst c6
   have H1 : ((spec_ShiftsOK.f kj2 l0 l1).bind fun t244 => (if t244 = true then ((spec_l21Search_try.f kj2 l0 l1 ([] : List Int) 0 false (([] : List Int))).bind fun bt249 => (if bt249.2.2 = true then (some (bt249.1, bt249.2.1, 0)) else (some (([] : List Int), 0, 8)))) else (some (([] : List Int), 0, 1)))) = some (r1, r2, r3) := by rw [if_neg (show ¬ (false = true) by decide)] at H; exact H
   clear H
   have H := H1
   clear H1
   replace H := Option.bind_eq_some_iff.mp H
   obtain ⟨t244, A80, H⟩ := H
   replace H : (if t244 = true then ((spec_l21Search_try.f kj2 l0 l1 ([] : List Int) 0 false (([] : List Int))).bind fun bt249 => (if bt249.2.2 = true then (some (bt249.1, bt249.2.1, 0)) else (some (([] : List Int), 0, 8)))) else (some (([] : List Int), 0, 1))) = some (r1, r2, r3) := H
   have A8 := zb A80
   clear A80
   by_cases c9 : t244 = true
   rotate_left
   ·replace c9 := Bool.eq_false_iff.mpr c9
    subst c9
    have H1 : (some (([] : List Int), 0, 1)) = some (r1, r2, r3) := by rw [if_neg (show ¬ (false = true) by decide)] at H; exact H
    clear H
    have H := H1
    clear H1
    simp only [Option.some.injEq, Prod.mk.injEq] at H
    obtain ⟨rfl, rfl, rfl⟩ := H
    go_wp2_with (first | ((with_reducible refine gate_callee (f := 100) rfl ?_); refine goesL_ (some 18) rfl rfl Try.func100 zG101 rfl #[.slice A0 l0.length c0, .slice A1 l1.length c1] rfl zG67 ?_; (with_reducible refine (spec_ShiftsOK.calls kj2 _ _ l0 _ _ l1 false _ ?side1 ?side2 ?side3 ?side4 A8.out).mono ?_); (case side1 => exact zH62); (case side2 => exact HC0.out); (case side3 => exact zH61); (case side4 => exact HC1.out); rintro e w33 ⟨rfl, hb⟩; refine ⟨_, rfl, ?_⟩; have n_ := zA_ (zb (zq (g := gb243) (o := .cells #[.slice none 0 0, .int .i64 0] 64 (0, 0)) zG80 hb)) (zb (zp zK182 hb)); clear BK243 HB; obtain ⟨BK243, HB⟩ := n_; (try clear hb); obtain ⟨hcz34_0, hcz34_1, hfz34_0, hfz34_1⟩ := zB2 BK243.out))
    refine bodyPost_ret (results_ct rfl _ _ gb243 64 #[.slice none 0 0, .int .i64 0] (0, 0) _ rfl zK130 Try.underlying64 rfl zG101) rfl ?_
    exact zH15

   subst c9
   have H1 : ((spec_l21Search_try.f kj2 l0 l1 ([] : List Int) 0 false (([] : List Int))).bind fun bt249 => (if bt249.2.2 = true then (some (bt249.1, bt249.2.1, 0)) else (some (([] : List Int), 0, 8)))) = some (r1, r2, r3) := by rw [if_pos rfl] at H; exact H
   clear H
   have H := H1
   clear H1
   obtain ⟨y246, hy246⟩ : ∃ y_ : List Int, y_ = (([] : List Int)) := ⟨_, rfl⟩
   replace H : ((spec_l21Search_try.f kj2 l0 l1 ([] : List Int) 0 false y246).bind fun bt249 => (if bt249.2.2 = true then (some (bt249.1, bt249.2.1, 0)) else (some (([] : List Int), 0, 8)))) = some (r1, r2, r3) := by first | (rw [hy246]; with_reducible exact H) | (have H2_ := (Option.bind_some _ _).symm.trans H; rw [hy246]; with_reducible exact H2_) | (have H2_ := (Option.bind_some _ _).symm.trans H; with_reducible exact H2_) | with_reducible exact H | (rw [hy246]; exact H) | exact H
   have Ny246 := zb hy246
   clear hy246
   replace H := Option.bind_eq_some_iff.mp H
   obtain ⟨⟨t249, t252, t253⟩, A100, H⟩ := H
   replace H : (if t253 = true then (some (t249, t252, 0)) else (some (([] : List Int), 0, 8))) = some (r1, r2, r3) := H
   have A10 := zb A100
   clear A100
   by_cases c11 : t253 = true
   rotate_left
   ·replace c11 := Bool.eq_false_iff.mpr c11
    subst c11
    have H1 : (some (([] : List Int), 0, 8)) = some (r1, r2, r3) := by rw [if_neg (show ¬ (false = true) by decide)] at H; exact H
    clear H
    have H := H1
    clear H1
    simp only [Option.some.injEq, Prod.mk.injEq] at H
    obtain ⟨rfl, rfl, rfl⟩ := H
    go_wp2_with (first | ((with_reducible refine gate_callee (f := 100) rfl ?_); refine goesL_ (some 18) rfl rfl Try.func100 zG101 rfl #[.slice A0 l0.length c0, .slice A1 l1.length c1] rfl zG67 ?_; (with_reducible refine (spec_ShiftsOK.calls kj2 _ _ l0 _ _ l1 true _ ?side1 ?side2 ?side3 ?side4 A8.out).mono ?_); (case side1 => exact zH62); (case side2 => exact HC0.out); (case side3 => exact zH61); (case side4 => exact HC1.out); rintro e w24 ⟨rfl, hb⟩; refine ⟨_, rfl, ?_⟩; have n_ := zA_ (zb (zq (g := gb243) (o := .cells #[.slice none 0 0, .int .i64 0] 64 (0, 0)) zG80 hb)) (zb (zp zK182 hb)); clear BK243 HB; obtain ⟨BK243, HB⟩ := n_; (try clear hb); (try clear hk)) | ((with_reducible refine gate_dst (N := 24) rfl ?_); (try (refine gate_guard (by rfl) ?_; dsimp only)); refine box_event ?hg (N := 24) ?hd (cs := #[.slice A0 l0.length c0, .slice A1 l1.length c1, .slice none 0 0, .int .i64 0, .bool false]) (t := 148) ?hr ?_; (case hd => rfl); (case hg => rfl); (case hr => exact zH117); intro gb245 hg w25 hbox hb; have n_ := zA_ (zb (zq (g := gb243) (o := .cells #[.slice none 0 0, .int .i64 0] 64 (0, 0)) zG80 hb)) (zA_ (zb (zp zK182 hb)) (zA_ (zb (hbox)) (zA_ (zN1 w.heap.size hg (zo zK182)) (zA_ (zN1 w.heap.size hg (zo zK182)) (zN2 hg (zaa (g := gb243) (o := .cells #[.slice none 0 0, .int .i64 0] 64 (0, 0)) zG80)))))); clear BK243 HB; obtain ⟨BK243, HB, BK245, GW245, GE245, NB243_245, NB245_243⟩ := n_; clear hb hbox hg) | ((with_reducible refine gate_dst (N := 26) rfl ?_); (try (refine gate_guard (by rfl) ?_; dsimp only)); refine zbh (Kd.int .i64) _ 3 ?hg (N := 26) ?hd (xs := ([] : List Int)) (inner := []) (ok := fun _ => True) (okp := fun _ => True) ?hr ?hp (fun _ hk => hk) trivial (Below.refl _ _) (Nat.le_refl _) (by simp) ?_; (case hd => rfl); (case hg => rfl); (case hr => exact zH117); (case hp => exact (Reps.none _ _)); intro v247 w26 ho27 hb hg_ hnew_; clear hg_ hnew_; (first | rw [← Ny246.out] at ho27 | (simp only [Int.reduceToNat] at ho27; rw [← Ny246.out] at ho27)); have n_ := zA_ (zb (zah ho27 (zo zK178))) (zA_ (zb (zq (g := gb243) (o := .cells #[.slice none 0 0, .int .i64 0] 64 (0, 0)) zG80 hb)) (zA_ (zb (zq (g := gb245) (o := .cells #[.slice A0 l0.length c0, .slice A1 l1.length c1, .slice none 0 0, .int .i64 0, .bool false] 148 (0, 0)) (by (with_reducible repeat (first | refine zf ?_ _ | refine zi ?_ | refine zg ?_ _)); exact BK245.out) hb)) (zb (zp zK178 hb)))); clear BK243 BK245 HB; obtain ⟨HO248, BK243, BK245, HB⟩ := n_; clear hb ho27; obtain ⟨Ao28, co28, eo28⟩ := zaf HO248.out; subst eo28) | ((with_reducible refine gate_callee (f := 101) rfl ?_); refine goesL_ (some 27) rfl rfl Try.func101 zG101 rfl #[.pointer (some ⟨gb245, 0, none⟩), .slice Ao28 y246.length co28] rfl zG67 ?_; (refine (spec_l21Search_try.calls kj2 gb245 A0 c0 l0 A1 c1 l1 (fun k_ => some k_ = (.slice none 0 0 : Value).ownBlock) (.slice none 0 0) ([] : List Int) 0 false (fun k_ => some k_ = (.slice Ao28 y246.length co28 : Value).ownBlock) (.slice Ao28 y246.length co28) y246 t249 t252 false w _ ?side1 ?side2 ?side3 ?side4 ?side5 ?side6 ?side7 ?side8 ?side9 ?side10 ?side11 A10.out).mono ?_); (case side1 => exact zH46); (case side2 => exact zH87); (case side3 => exact GE245.out); (case side4 => exact zH13); (case side5 => exact HC0.out); (case side6 => exact zH14); (case side7 => exact HC1.out); (case side8 => exact zaz _ _ _ _ _); (case side9 => exact zH115); (case side10 => exact zas rfl HO248.out); (case side11 => exact zH115); rintro e w29 ⟨v250, rfl, ho0, hz0, hb, hkp⟩; refine ⟨_, rfl, ?_⟩; have n_ := zA_ (zb (zan zG80 hkp (fun hs_ => Or.elim hs_ (fun hs_ => Or.elim hs_ (fun e_ => (fun e_ => by simp [Value.ownBlock] at e_) e_) (fun e_ => (fun e_ => (zaq HO248.out BK243.out (by decide)) e_) e_)) (fun e_ => NB243_245.out e_)))) (zA_ (zb (hz0)) (zA_ (zb (zx (ok' := fun k_ => True) ho0 (fun k_ hk_ => trivial))) (zb (hb)))); clear BK243 BK245 HB HO248; obtain ⟨BK243, BK245, HO251, HB⟩ := n_; (try clear hb); (try clear hkp); (try clear ho0); (try clear hz0); have hnb30 := NB245_243.out; have hnc30 := NB243_245.out; obtain ⟨hcz31_0, hcz31_1, hcz31_2, hcz31_3, hcz31_4, hfz31_0, hfz31_1, hfz31_2, hfz31_3, hfz31_4⟩ := zB5 BK245.out; obtain ⟨hcz32_0, hcz32_1, hfz32_0, hfz32_1⟩ := zB2 BK243.out))
    refine bodyPost_ret (results_ct rfl _ _ gb243 64 #[.slice none 0 0, .int .i64 0] (0, 0) _ rfl zK130 Try.underlying64 rfl zG101) rfl ?_
    exact ⟨_, zH104, zH65, zH39⟩
   subst c11
   have H1 : (some (t249, t252, 0)) = some (r1, r2, r3) := by rw [if_pos rfl] at H; exact H
   clear H
   have H := H1
   clear H1
   simp only [Option.some.injEq, Prod.mk.injEq] at H
   obtain ⟨rfl, rfl, rfl⟩ := H
   try go_wp2_with (first | ((with_reducible refine gate_callee (f := 100) rfl ?_); refine goesL_ (some 18) rfl rfl Try.func100 zG101 rfl #[.slice A0 l0.length c0, .slice A1 l1.length c1] rfl zG67 ?_; (with_reducible refine (spec_ShiftsOK.calls kj2 _ _ l0 _ _ l1 true _ ?side1 ?side2 ?side3 ?side4 A8.out).mono ?_); (case side1 => exact zH62); (case side2 => exact HC0.out); (case side3 => exact zH61); (case side4 => exact HC1.out); rintro e w12 ⟨rfl, hb⟩; refine ⟨_, rfl, ?_⟩; have n_ := zA_ (zb (zq (g := gb243) (o := .cells #[.slice none 0 0, .int .i64 0] 64 (0, 0)) zG80 hb)) (zb (zp zK182 hb)); clear BK243 HB; obtain ⟨BK243, HB⟩ := n_; (try clear hb); (try clear hk)) | ((with_reducible refine gate_dst (N := 24) rfl ?_); (try (refine gate_guard (by rfl) ?_; dsimp only)); refine box_event ?hg (N := 24) ?hd (cs := #[.slice A0 l0.length c0, .slice A1 l1.length c1, .slice none 0 0, .int .i64 0, .bool false]) (t := 148) ?hr ?_; (case hd => rfl); (case hg => rfl); (case hr => exact zH117); intro gb245 hg w13 hbox hb; have n_ := zA_ (zb (zq (g := gb243) (o := .cells #[.slice none 0 0, .int .i64 0] 64 (0, 0)) zG80 hb)) (zA_ (zb (zp zK182 hb)) (zA_ (zb (hbox)) (zA_ (zN1 w.heap.size hg (zo zK182)) (zA_ (zN1 w.heap.size hg (zo zK182)) (zN2 hg (zaa (g := gb243) (o := .cells #[.slice none 0 0, .int .i64 0] 64 (0, 0)) zG80)))))); clear BK243 HB; obtain ⟨BK243, HB, BK245, GW245, GE245, NB243_245, NB245_243⟩ := n_; clear hb hbox hg) | ((with_reducible refine gate_dst (N := 26) rfl ?_); (try (refine gate_guard (by rfl) ?_; dsimp only)); refine zbh (Kd.int .i64) _ 3 ?hg (N := 26) ?hd (xs := ([] : List Int)) (inner := []) (ok := fun _ => True) (okp := fun _ => True) ?hr ?hp (fun _ hk => hk) trivial (Below.refl _ _) (Nat.le_refl _) (by simp) ?_; (case hd => rfl); (case hg => rfl); (case hr => exact zH117); (case hp => exact (Reps.none _ _)); intro v247 w14 ho15 hb hg_ hnew_; clear hg_ hnew_; (first | rw [← Ny246.out] at ho15 | (simp only [Int.reduceToNat] at ho15; rw [← Ny246.out] at ho15)); have n_ := zA_ (zb (zah ho15 (zo zK178))) (zA_ (zb (zq (g := gb243) (o := .cells #[.slice none 0 0, .int .i64 0] 64 (0, 0)) zG80 hb)) (zA_ (zb (zq (g := gb245) (o := .cells #[.slice A0 l0.length c0, .slice A1 l1.length c1, .slice none 0 0, .int .i64 0, .bool false] 148 (0, 0)) (by (with_reducible repeat (first | refine zf ?_ _ | refine zi ?_ | refine zg ?_ _)); exact BK245.out) hb)) (zb (zp zK178 hb)))); clear BK243 BK245 HB; obtain ⟨HO248, BK243, BK245, HB⟩ := n_; clear hb ho15; obtain ⟨Ao16, co16, eo16⟩ := zaf HO248.out; subst eo16) | ((with_reducible refine gate_callee (f := 101) rfl ?_); refine goesL_ (some 27) rfl rfl Try.func101 zG101 rfl #[.pointer (some ⟨gb245, 0, none⟩), .slice Ao16 y246.length co16] rfl zG67 ?_; (refine (spec_l21Search_try.calls kj2 gb245 A0 c0 l0 A1 c1 l1 (fun k_ => some k_ = (.slice none 0 0 : Value).ownBlock) (.slice none 0 0) ([] : List Int) 0 false (fun k_ => some k_ = (.slice Ao16 y246.length co16 : Value).ownBlock) (.slice Ao16 y246.length co16) y246 t249 t252 true w _ ?side1 ?side2 ?side3 ?side4 ?side5 ?side6 ?side7 ?side8 ?side9 ?side10 ?side11 A10.out).mono ?_); (case side1 => exact zH46); (case side2 => exact zH87); (case side3 => exact GE245.out); (case side4 => exact zH13); (case side5 => exact HC0.out); (case side6 => exact zH14); (case side7 => exact HC1.out); (case side8 => exact zaz _ _ _ _ _); (case side9 => exact zH115); (case side10 => exact zas rfl HO248.out); (case side11 => exact zH115); rintro e w17 ⟨v250, rfl, ho0, hz0, hb, hkp⟩; refine ⟨_, rfl, ?_⟩; have n_ := zA_ (zb (zan zG80 hkp (fun hs_ => Or.elim hs_ (fun hs_ => Or.elim hs_ (fun e_ => (fun e_ => by simp [Value.ownBlock] at e_) e_) (fun e_ => (fun e_ => (zaq HO248.out BK243.out (by decide)) e_) e_)) (fun e_ => NB243_245.out e_)))) (zA_ (zb (hz0)) (zA_ (zb (zx (ok' := fun k_ => True) ho0 (fun k_ hk_ => trivial))) (zb (hb)))); clear BK243 BK245 HB HO248; obtain ⟨BK243, BK245, HO251, HB⟩ := n_; (try clear hb); (try clear hkp); (try clear ho0); (try clear hz0); have hnb18 := NB245_243.out; have hnc18 := NB243_245.out; obtain ⟨hcz19_0, hcz19_1, hcz19_2, hcz19_3, hcz19_4, hfz19_0, hfz19_1, hfz19_2, hfz19_3, hfz19_4⟩ := zB5 BK245.out))
   obtain ⟨n0_, n1_, n2_, n3_⟩ := zD4 (zn HO251.out) (zi BK243.out) (zi BK245.out) (zd HB.out)
   clear HO251 BK243 BK245 HB
   have HO251 := n0_
   have BK243 := n1_
   have BK245 := n2_
   have HB := n3_
   clear n0_ n1_ n2_ n3_
   obtain ⟨Ao21, co21, eo21⟩ := zaf HO251.out
   (first | subst eo21 | (injection eo21 with f1_ f2_ f3_; have f4_ := f1_.symm; have f5_ := f3_.symm; clear f1_ f2_ f3_; subst f4_; subst f5_))
   refine start_ (n := 11) (S := fun w' => w'.cell? ⟨gb245, 0, none⟩ = some (.slice A0 l0.length c0) ∧ w'.cell? ⟨gb245, 1, none⟩ = some (.slice A1 l1.length c1) ∧ w'.cell? ⟨gb245, 2, none⟩ = some (.slice Ao21 t249.length co21) ∧ w'.cell? ⟨gb245, 3, none⟩ = some (.int .i64 t252) ∧ w'.cell? ⟨gb245, 4, none⟩ = some (.bool true)) (ds := []) #[false, false, false, false, false, false, false, false, false, false, false] zG101 rfl rfl ⟨(zk BK245.out 0).trans rfl, (zk BK245.out 1).trans rfl, (zk BK245.out 2).trans rfl, (zk BK245.out 3).trans rfl, (zk BK245.out 4).trans rfl⟩ (fun hHeld => ?_); refine with_tabW spec_BestRoster.tab9 spec_BestRoster.bits9 (fun HT_ HW_ => ?_)
   generalize w17.drew = w20 at HO251 BK243 BK245 HB hHeld ⊢
   refine zP 0 34 #[true, false, false, false, false, false, false, false, false, false, false] HT_ ?_
   refine zP 1 35 #[true, true, false, false, false, false, false, false, false, false, false] HT_ ?_
   refine zP 2 36 #[true, true, true, false, false, false, false, false, false, false, false] HT_ ?_
   refine zP 4 38 #[true, true, true, false, true, false, false, false, false, false, false] HT_ ?_
   refine zP 5 39 #[true, true, true, false, true, true, false, false, false, false, false] HT_ ?_
   refine zP 6 40 #[true, true, true, false, true, true, true, false, false, false, false] HT_ ?_
   refine zQ 3 37 #[true, true, true, true, true, true, true, false, false, false, false] HT_ HW_ hHeld ?_
   refine zQ 7 41 #[true, true, true, true, true, true, true, true, false, false, false] HT_ HW_ hHeld ?_
   refine zP 8 42 #[true, true, true, true, true, true, true, true, true, false, false] HT_ ?_
   refine one_ (i := 9) (N := none) #[true, true, true, true, true, true, true, true, true, true, false] rfl rfl (one_of HT_.out zG101) (by decide) (fun K hK => ?_)
   have hs22 : w20.cell? ⟨gb243, 0, none⟩ = some (.slice none 0 0) := (zk BK243.out 0).trans rfl
   have hfs22 := zj BK243.out 0
   have hns22_1 := NB245_243.out
   have hms22_1 := NB243_245.out
   have hs23 : w20.cell? ⟨gb243, 1, none⟩ = some (.int .i64 0) := (zk BK243.out 1).trans rfl
   have hfs23 := zj BK243.out 1
   have hns23_1 := NB245_243.out
   have hms23_1 := NB243_245.out
   refine skip_ (w1 := ?_) (by rfl) rfl ?_ ?_
   rotate_left
   ·go_simp
    rfl
   refine hK.out _ _ ⟨((cell_far (p := ⟨gb243, _, none⟩) NB245_243.out _).trans (((cell_far (p := ⟨gb243, _, none⟩) NB245_243.out _).trans (hHeld.1)))), ((cell_far (p := ⟨gb243, _, none⟩) NB245_243.out _).trans (((cell_far (p := ⟨gb243, _, none⟩) NB245_243.out _).trans (hHeld.2.1)))), ((cell_far (p := ⟨gb243, _, none⟩) NB245_243.out _).trans (((cell_far (p := ⟨gb243, _, none⟩) NB245_243.out _).trans (hHeld.2.2.1)))), ((cell_far (p := ⟨gb243, _, none⟩) NB245_243.out _).trans (((cell_far (p := ⟨gb243, _, none⟩) NB245_243.out _).trans (hHeld.2.2.2.1)))), ((cell_far (p := ⟨gb243, _, none⟩) NB245_243.out _).trans (((cell_far (p := ⟨gb243, _, none⟩) NB245_243.out _).trans (hHeld.2.2.2.2))))⟩ (fun hHeld => ?_)
   clear hK K
   refine zP 10 5 #[true, true, true, true, true, true, true, true, true, true, true] HT_ ?_
   refine done_ (done_of HT_.out zG101) ?_
   try go_wp2
   refine bodyPost_ret (results_ct rfl _ _ gb243 64 #[.slice Ao21 t249.length co21, .int .i64 t252] (0, 0) _ rfl (by (with_reducible repeat (first | refine zf ?_ _ | refine zi ?_ | refine zg ?_ _)); refine zs (cs := #[.slice Ao21 t249.length co21, .int .i64 0]) ?_ 1 _ rfl; (with_reducible repeat (first | refine zf ?_ _ | refine zi ?_ | refine zg ?_ _)); refine zs (cs := #[.slice none 0 0, .int .i64 0]) ?_ 0 _ rfl; (with_reducible repeat (first | refine zf ?_ _ | refine zi ?_ | refine zg ?_ _)); exact BK243.out) Try.underlying64 rfl zG101) rfl ?_
   exact ⟨_, zH104, by (with_reducible repeat (first | apply zl | apply zm | apply zn)); exact zx (zy (p := ⟨gb243, 1, none⟩) (zy (p := ⟨gb243, 0, none⟩) (zab HO251.out BK243.out (by decide)) (fun _ hk => hk.2) (.slice Ao21 t249.length co21)) (fun _ hk => hk.2) (.int .i64 t252)) (fun _ hk => trivial), zH39⟩
/-! ### laws_szShift: function 109 -/
def laws_szShift.f (a0_0 : Int) (a0_1 : Int) (a0_2 : ByteArray) (a1 : Int) : Option (Int) := if (wrap64 (a1 - (a0_2.size : Int))) < 0 then (some (-1)) else (some (wrap64 (a1 - (a0_2.size : Int))))
set_option maxHeartbeats 64000000 in
set_option maxRecDepth 100000 in
theorem laws_szShift.calls (a0_0 : Int) (a0_1 : Int) (a0_2 : ByteArray) (a1 : Int) (r : Int) (w : World) (h : laws_szShift.f a0_0 a0_1 a0_2 a1 = some r) :
  Calls Try.prog 109 #[.agg #[.int .i64 a0_0, .int .i64 a0_1, .string a0_2], .int .i64 a1] w fun e w' => e = .returned (.int .i64 r) ∧ Below w.heap.size w w' := by
 have hu159 := Try.underlying159
 have HB := zb (Below.refl w.heap.size w)
 have H : (if (wrap64 (a1 - (a0_2.size : Int))) < 0 then (some (-1)) else (some (wrap64 (a1 - (a0_2.size : Int))))) = some r := h
 clear h
 by_cases c3 : (wrap64 (a1 - (a0_2.size : Int))) < 0
 ·rw [if_pos c3] at H
  have c3b0 := decide_eq_true c3
  clear c3
  obtain rfl := Option.some.inj H
  go_enter Try.func109, Try.ntmps109
  go_wp2_with (first | ((with_reducible refine gate_dst (N := 2) rfl ?_); refine box_event ?hg (N := 2) ?hd (cs := #[.int .i64 a0_0, .int .i64 a0_1, .string a0_2]) (t := 159) ?hr ?_; (case hd => rfl); (case hg => rfl); (case hr => exact zH117); intro gb254 hg w4 hbox hb; have n_ := zA_ (zb (zp zG77 hb)) (zA_ (zb (hbox)) (zA_ (zN1 w.heap.size hg (zo zG77)) (zN1 w.heap.size hg (zo zG77)))); clear HB; obtain ⟨HB, BK254, GW254, GE254⟩ := n_; clear hb hbox hg; obtain ⟨hcz5_0, hcz5_1, hcz5_2, hfz5_0, hfz5_1, hfz5_2⟩ := zB3 BK254.out))
  go_ret
  exact zH25
 rw [if_neg c3] at H
 have c3b0 := decide_eq_false c3
 clear c3
 obtain rfl := Option.some.inj H
 go_enter Try.func109, Try.ntmps109
 go_wp2_with (first | ((with_reducible refine gate_dst (N := 2) rfl ?_); refine box_event ?hg (N := 2) ?hd (cs := #[.int .i64 a0_0, .int .i64 a0_1, .string a0_2]) (t := 159) ?hr ?_; (case hd => rfl); (case hg => rfl); (case hr => exact zH117); intro gb254 hg w6 hbox hb; have n_ := zA_ (zb (zp zG77 hb)) (zA_ (zb (hbox)) (zA_ (zN1 w.heap.size hg (zo zG77)) (zN1 w.heap.size hg (zo zG77)))); clear HB; obtain ⟨HB, BK254, GW254, GE254⟩ := n_; clear hb hbox hg; obtain ⟨hcz7_0, hcz7_1, hcz7_2, hfz7_0, hfz7_1, hfz7_2⟩ := zB3 BK254.out))
 go_ret
 exact zH25

/-! ### laws_szShiftS: function 44 -/
def laws_szShiftS.l0 : Nat → List (S159) → Int → Int → Option (Int)
 | 0, _, _, _ => none
 | k + 1, x0, x1, x5 => if x5 < (x0.length : Int) then (if 0 ≤ x5 then ((laws_szShift.f ((rd_T159 x0 x5).f0) ((rd_T159 x0 x5).f1) ((rd_T159 x0 x5).f2) x1).bind fun t256 => (if t256 < 0 then (some (-1)) else (laws_szShiftS.l0 k x0 t256 (wrap64 (x5 + 1))))) else (none)) else (some x1)
def laws_szShiftS.f (k : Nat) (l0 : List (S159)) (a1 : Int) : Option (Int) := if (wrap64 (a1 - (l0.length : Int))) < 0 then (some (-1)) else (laws_szShiftS.l0 k l0 (wrap64 (a1 - (l0.length : Int))) 0)
theorem laws_szShiftS.mono_l : ∀ k, (∀ y0 y1 y2, LeO (laws_szShiftS.l0 k y0 y1 y2) (laws_szShiftS.l0 (k + 1) y0 y1 y2))
 | 0 => fun _ _ _ r h => by simp [laws_szShiftS.l0] at h
 | k + 1 => by
  have ih0 := laws_szShiftS.mono_l k
  ·intro y0 y1 y2
   unfold laws_szShiftS.l0
   repeat' first
   | (with_reducible exact ih0 _ _ _)
   | (with_reducible exact LeO.refl _)
   | (with_reducible exact LeO.none _)
   | (with_reducible refine LeO.ite ?_ ?_)
   | (with_reducible refine LeO.bind ?_ (fun _ => ?_))
   | exact ih0 _ _ _
   | exact LeO.none _
   | refine LeO.ite ?_ ?_
   | refine LeO.bind ?_ (fun _ => ?_)
theorem laws_szShiftS.mono : ∀ a0 a1 k, LeO (laws_szShiftS.f k a0 a1) (laws_szShiftS.f (k + 1) a0 a1) := by
 intro a0 a1 k
 have ih0 := laws_szShiftS.mono_l k
 unfold laws_szShiftS.f
 repeat' first
   | (with_reducible exact ih0 _ _ _)
   | (with_reducible exact LeO.refl _)
   | (with_reducible exact LeO.none _)
   | (with_reducible refine LeO.ite ?_ ?_)
   | (with_reducible refine LeO.bind ?_ (fun _ => ?_))
   | exact ih0 _ _ _
   | exact LeO.none _
   | refine LeO.ite ?_ ?_
   | refine LeO.bind ?_ (fun _ => ?_)
set_option maxHeartbeats 64000000 in
set_option maxRecDepth 100000 in
theorem laws_szShiftS.calls (k : Nat) (A0 : Option Addr) (c0 : Nat) (l0 : List (S159)) (a1 : Int) (r : Int) (w : World) (hr0 : Kd.C k159 w A0 l0.length l0) (hc0 : l0.length ≤ c0) (h : laws_szShiftS.f k l0 a1 = some r) :
  Calls Try.prog 44 #[.slice A0 l0.length c0, .int .i64 a1] w fun e w' => e = .returned (.int .i64 r) ∧ Below w.heap.size w w' := by
 have hu159 := Try.underlying159
 obtain ⟨HR0, HC0, HB⟩ := zD3 hr0 hc0 (Below.refl w.heap.size w)
 clear hr0 hc0
 have H : (if (wrap64 (a1 - (l0.length : Int))) < 0 then (some (-1)) else (laws_szShiftS.l0 k l0 (wrap64 (a1 - (l0.length : Int))) 0)) = some r := h
 clear h
 by_cases c3 : (wrap64 (a1 - (l0.length : Int))) < 0
 ·rw [if_pos c3] at H
  have c3b0 := decide_eq_true c3
  clear c3
  obtain rfl := Option.some.inj H
  go_enter Try.func44, Try.ntmps44
  go_wp2
  go_ret
  exact zH34
 rw [if_neg c3] at H
 have c3b0 := decide_eq_false c3
 clear c3
 have H' := zb H
 clear H
 go_enter Try.func44, Try.ntmps44
 go_wp2
 go_loopg [1, 5] k (fun kq v1 v5 w' => ∃ (x1_1 : Int) (x5_1 : Int), v1 = .int .i64 x1_1 ∧ v5 = .int .i64 x5_1 ∧ Aside0 (laws_szShiftS.l0 kq l0 x1_1 x5_1 = some r) ∧ Aside0 (kq ≤ k) ∧ Aside0 (Below w.heap.size w w'))
 case atStart => exact ⟨(wrap64 (a1 - (l0.length : Int))), (0), zG100, zG100, H', ⟨Nat.le_refl _⟩, ⟨zH91⟩⟩
 case round =>
  clear H'
  try clear c3
  try clear c3b0
  obtain ⟨x1_1, x5_1, rfl, rfl, HA, HK1, HB⟩ := hrel
  cases gk with
  | zero => exact absurd HA.out (by simp [laws_szShiftS.l0])
  | succ k1 =>
   have H := HA.out
   clear HA
   simp only [laws_szShiftS.l0] at H
   by_cases c4 : x5_1 < (l0.length : Int)
   rotate_left
   ·rw [if_neg c4] at H
    have c4b0 := decide_eq_false c4
    clear c4
    obtain rfl := Option.some.inj H
    go_wp2
    go_ret
    exact zH34

   rw [if_pos c4] at H
   have c4b0 := decide_eq_true c4
   clear c4
   by_cases c5 : 0 ≤ x5_1
   rotate_left
   ·rw [if_neg c5] at H
    exact absurd H (by simp)
   rw [if_pos c5] at H
   have c5b0 := decide_eq_true c5
   clear c5
   replace H := Option.bind_eq_some_iff.mp H
   obtain ⟨t256, A60, H⟩ := H
   replace H : (if t256 < 0 then (some (-1)) else (laws_szShiftS.l0 k1 l0 t256 (wrap64 (x5_1 + 1)))) = some r := H
   have A6 := zb A60
   clear A60
   by_cases c7 : t256 < 0
   ·rw [if_pos c7] at H
    have c7b0 := decide_eq_true c7
    clear c7
    obtain rfl := Option.some.inj H
    have p255 : 0 ≤ (x5_1 : Int) := zO
    have q255 : x5_1 < (l0.length : Int) := zO
    obtain ⟨ad255, e255, hx255_0, hx255_1, hx255_2⟩ := at_T159 HR0.out x5_1 p255 q255
    cases e255
    replace hx255_0 := (HB.out.cell (za w _ hx255_0)).trans hx255_0
    replace hx255_1 := (HB.out.cell (za w _ hx255_1)).trans hx255_1
    replace hx255_2 := (HB.out.cell (za w _ hx255_2)).trans hx255_2
    replace p255 := eq_true p255
    replace q255 := eq_true q255
    go_wp2_with (first | ((with_reducible refine gate_callee (f := 109) rfl ?_); refine goesL_ (some 23) rfl rfl Try.func109 zG101 rfl #[.agg #[.int .i64 ((rd_T159 l0 x5_1).f0), .int .i64 ((rd_T159 l0 x5_1).f1), .string ((rd_T159 l0 x5_1).f2)], .int .i64 x1_1] rfl zG67 ?_; (with_reducible refine (laws_szShift.calls ((rd_T159 l0 x5_1).f0) ((rd_T159 l0 x5_1).f1) ((rd_T159 l0 x5_1).f2) x1_1 t256 _ A6.out).mono ?_); rintro e w8 ⟨rfl, hb⟩; refine ⟨_, rfl, ?_⟩; replace HB := zb (zp zG77 hb); (try clear hb)))
    go_ret
    exact zH34
   rw [if_neg c7] at H
   have c7b0 := decide_eq_false c7
   clear c7
   have H' := zb H
   clear H
   have p255 : 0 ≤ (x5_1 : Int) := zO
   have q255 : x5_1 < (l0.length : Int) := zO
   obtain ⟨ad255, e255, hx255_0, hx255_1, hx255_2⟩ := at_T159 HR0.out x5_1 p255 q255
   cases e255
   replace hx255_0 := (HB.out.cell (za w _ hx255_0)).trans hx255_0
   replace hx255_1 := (HB.out.cell (za w _ hx255_1)).trans hx255_1
   replace hx255_2 := (HB.out.cell (za w _ hx255_2)).trans hx255_2
   replace p255 := eq_true p255
   replace q255 := eq_true q255
   go_wp2_with (first | ((with_reducible refine gate_callee (f := 109) rfl ?_); refine goesL_ (some 23) rfl rfl Try.func109 zG101 rfl #[.agg #[.int .i64 ((rd_T159 l0 x5_1).f0), .int .i64 ((rd_T159 l0 x5_1).f1), .string ((rd_T159 l0 x5_1).f2)], .int .i64 x1_1] rfl zG67 ?_; (with_reducible refine (laws_szShift.calls ((rd_T159 l0 x5_1).f0) ((rd_T159 l0 x5_1).f1) ((rd_T159 l0 x5_1).f2) x1_1 t256 _ A6.out).mono ?_); rintro e w9 ⟨rfl, hb⟩; refine ⟨_, rfl, ?_⟩; replace HB := zb (zp zG77 hb); (try clear hb)))
   go_roundg k1
   case measure => have := HK1.out; omega
   case rel => exact ⟨(t256), (wrap64 (x5_1 + 1)), zG100, zG100, H', ⟨zH120⟩, ⟨zH91⟩⟩
/-! ### laws_szStringS: function 141 -/
def laws_szStringS.l0 : Nat → List ByteArray → Int → Int → Option (Int)
 | 0, _, _, _ => none
 | k + 1, x0, x1, x5 => if x5 < (x0.length : Int) then (if 0 ≤ x5 then (if (wrap64 (x1 - ((rdOf ByteArray.empty x0 x5).size : Int))) < 0 then (some (-1)) else (laws_szStringS.l0 k x0 (wrap64 (x1 - ((rdOf ByteArray.empty x0 x5).size : Int))) (wrap64 (x5 + 1)))) else (none)) else (some x1)
def laws_szStringS.f (k : Nat) (l0 : List ByteArray) (a1 : Int) : Option (Int) := if (wrap64 (a1 - (l0.length : Int))) < 0 then (some (-1)) else (laws_szStringS.l0 k l0 (wrap64 (a1 - (l0.length : Int))) 0)
theorem laws_szStringS.mono_l : ∀ k, (∀ y0 y1 y2, LeO (laws_szStringS.l0 k y0 y1 y2) (laws_szStringS.l0 (k + 1) y0 y1 y2))
 | 0 => fun _ _ _ r h => by simp [laws_szStringS.l0] at h
 | k + 1 => by
  have ih0 := laws_szStringS.mono_l k
  ·intro y0 y1 y2
   unfold laws_szStringS.l0
   repeat' first
   | (with_reducible exact ih0 _ _ _)
   | (with_reducible exact LeO.refl _)
   | (with_reducible exact LeO.none _)
   | (with_reducible refine LeO.ite ?_ ?_)
   | (with_reducible refine LeO.bind ?_ (fun _ => ?_))
   | exact ih0 _ _ _
   | exact LeO.none _
   | refine LeO.ite ?_ ?_
   | refine LeO.bind ?_ (fun _ => ?_)
theorem laws_szStringS.mono : ∀ a0 a1 k, LeO (laws_szStringS.f k a0 a1) (laws_szStringS.f (k + 1) a0 a1) := by
 intro a0 a1 k
 have ih0 := laws_szStringS.mono_l k
 unfold laws_szStringS.f
 repeat' first
   | (with_reducible exact ih0 _ _ _)
   | (with_reducible exact LeO.refl _)
   | (with_reducible exact LeO.none _)
   | (with_reducible refine LeO.ite ?_ ?_)
   | (with_reducible refine LeO.bind ?_ (fun _ => ?_))
   | exact ih0 _ _ _
   | exact LeO.none _
   | refine LeO.ite ?_ ?_
   | refine LeO.bind ?_ (fun _ => ?_)
set_option maxHeartbeats 64000000 in
set_option maxRecDepth 100000 in
theorem laws_szStringS.calls (k : Nat) (A0 : Option Addr) (c0 : Nat) (l0 : List ByteArray) (a1 : Int) (r : Int) (w : World) (hr0 : Kd.C Kd.string w A0 l0.length l0) (hc0 : l0.length ≤ c0) (h : laws_szStringS.f k l0 a1 = some r) :
  Calls Try.prog 141 #[.slice A0 l0.length c0, .int .i64 a1] w fun e w' => e = .returned (.int .i64 r) ∧ Drawn0 w w' := by
 obtain ⟨HR0, HC0⟩ := zD2 hr0 hc0
 clear hr0 hc0
 have H : (if (wrap64 (a1 - (l0.length : Int))) < 0 then (some (-1)) else (laws_szStringS.l0 k l0 (wrap64 (a1 - (l0.length : Int))) 0)) = some r := h
 clear h
 by_cases c3 : (wrap64 (a1 - (l0.length : Int))) < 0
 ·rw [if_pos c3] at H
  have c3b0 := decide_eq_true c3
  clear c3
  obtain rfl := Option.some.inj H
  go_enter Try.func141, Try.ntmps141
  go_wp2
  go_ret
  exact zH78
 rw [if_neg c3] at H
 have c3b0 := decide_eq_false c3
 clear c3
 have H' := zb H
 clear H
 go_enter Try.func141, Try.ntmps141
 go_wp2
 go_loopg [1, 5] k (fun kq v1 v5 w' => ∃ (x1_1 : Int) (x5_1 : Int), v1 = .int .i64 x1_1 ∧ v5 = .int .i64 x5_1 ∧ Aside0 (laws_szStringS.l0 kq l0 x1_1 x5_1 = some r) ∧ Aside0 (kq ≤ k) ∧ Drawn0 w w')
 case atStart => exact ⟨(wrap64 (a1 - (l0.length : Int))), (0), zG100, zG100, H', ⟨Nat.le_refl _⟩, zH112⟩
 case round =>
  clear H'
  try clear c3
  try clear c3b0
  obtain ⟨x1_1, x5_1, rfl, rfl, HA, HK1, ⟨m1, rfl⟩⟩ := hrel
  cases gk with
  | zero => exact absurd HA.out (by simp [laws_szStringS.l0])
  | succ k1 =>
   have H := HA.out
   clear HA
   simp only [laws_szStringS.l0] at H
   by_cases c4 : x5_1 < (l0.length : Int)
   rotate_left
   ·rw [if_neg c4] at H
    have c4b0 := decide_eq_false c4
    clear c4
    obtain rfl := Option.some.inj H
    go_wp2
    go_ret
    exact zH78

   rw [if_pos c4] at H
   have c4b0 := decide_eq_true c4
   clear c4
   by_cases c5 : 0 ≤ x5_1
   rotate_left
   ·rw [if_neg c5] at H
    exact absurd H (by simp)
   rw [if_pos c5] at H
   have c5b0 := decide_eq_true c5
   clear c5
   by_cases c6 : (wrap64 (x1_1 - ((rdOf ByteArray.empty l0 x5_1).size : Int))) < 0
   ·rw [if_pos c6] at H
    have c6b0 := decide_eq_true c6
    clear c6
    obtain rfl := Option.some.inj H
    have p257 : 0 ≤ (x5_1 : Int) := zO
    have q257 : x5_1 < (l0.length : Int) := zO
    obtain ⟨ad257, e257, hx257_0⟩ := zal HR0.out x5_1 p257 q257
    cases e257
    replace p257 := eq_true p257
    replace q257 := eq_true q257
    go_wp2
    go_ret
    exact zH78
   rw [if_neg c6] at H
   have c6b0 := decide_eq_false c6
   clear c6
   have H' := zb H
   clear H
   have p257 : 0 ≤ (x5_1 : Int) := zO
   have q257 : x5_1 < (l0.length : Int) := zO
   obtain ⟨ad257, e257, hx257_0⟩ := zal HR0.out x5_1 p257 q257
   cases e257
   replace p257 := eq_true p257
   replace q257 := eq_true q257
   go_wp2
   go_roundg k1
   case measure => have := HK1.out; omega
   case rel => exact ⟨(wrap64 (x1_1 - ((rdOf ByteArray.empty l0 x5_1).size : Int))), (wrap64 (x5_1 + 1)), zG100, zG100, H', ⟨zH120⟩, zH112⟩
/-! ### laws_szWorker: function 110 -/
def laws_szWorker.f (k : Nat) (a0_0 : ByteArray) (a0_1 : Int) (a0_2 : Int) (a0_3 : Int) (l0_4 : List ByteArray) (a1 : Int) : Option (Int) := if (wrap64 (a1 - (a0_0.size : Int))) < 0 then (some (-1)) else ((laws_szStringS.f k l0_4 (wrap64 (a1 - (a0_0.size : Int)))).bind fun t259 => (if t259 < 0 then (some (-1)) else (some t259)))
theorem laws_szWorker.mono : ∀ a0 a1 a2 a3 a4 a5 k, LeO (laws_szWorker.f k a0 a1 a2 a3 a4 a5) (laws_szWorker.f (k + 1) a0 a1 a2 a3 a4 a5) := by
 intro a0 a1 a2 a3 a4 a5 k
 unfold laws_szWorker.f
 repeat' first
   | (with_reducible exact laws_szStringS.mono _ _ _)
   | (with_reducible exact LeO.refl _)
   | (with_reducible exact LeO.none _)
   | (with_reducible refine LeO.ite ?_ ?_)
   | (with_reducible refine LeO.bind ?_ (fun _ => ?_))
   | exact laws_szStringS.mono _ _ _
   | exact LeO.none _
   | refine LeO.ite ?_ ?_
   | refine LeO.bind ?_ (fun _ => ?_)
set_option maxHeartbeats 64000000 in
set_option maxRecDepth 100000 in
theorem laws_szWorker.calls (k : Nat) (a0_0 : ByteArray) (a0_1 : Int) (a0_2 : Int) (a0_3 : Int) (A0_4 : Option Addr) (c0_4 : Nat) (l0_4 : List ByteArray) (a1 : Int) (r : Int) (w : World) (hr0_4 : Kd.C Kd.string w A0_4 l0_4.length l0_4) (hc0_4 : l0_4.length ≤ c0_4) (h : laws_szWorker.f k a0_0 a0_1 a0_2 a0_3 l0_4 a1 = some r) :
  Calls Try.prog 110 #[.agg #[.string a0_0, .int .i64 a0_1, .int .i64 a0_2, .int .i64 a0_3, .slice A0_4 l0_4.length c0_4], .int .i64 a1] w fun e w' => e = .returned (.int .i64 r) ∧ Below w.heap.size w w' := by
 have hu161 := Try.underlying161
 obtain ⟨HR0_4, HC0_4, HB⟩ := zD3 hr0_4 hc0_4 (Below.refl w.heap.size w)
 clear hr0_4 hc0_4
 have H : (if (wrap64 (a1 - (a0_0.size : Int))) < 0 then (some (-1)) else ((laws_szStringS.f k l0_4 (wrap64 (a1 - (a0_0.size : Int)))).bind fun t259 => (if t259 < 0 then (some (-1)) else (some t259)))) = some r := h
 clear h
 by_cases c3 : (wrap64 (a1 - (a0_0.size : Int))) < 0
 ·rw [if_pos c3] at H
  have c3b0 := decide_eq_true c3
  clear c3
  obtain rfl := Option.some.inj H
  go_enter Try.func110, Try.ntmps110
  go_wp2_with (first | ((with_reducible refine gate_dst (N := 2) rfl ?_); refine box_event ?hg (N := 2) ?hd (cs := #[.string a0_0, .int .i64 a0_1, .int .i64 a0_2, .int .i64 a0_3, .slice A0_4 l0_4.length c0_4]) (t := 161) ?hr ?_; (case hd => rfl); (case hg => rfl); (case hr => exact zH117); intro gb258 hg w4 hbox hb; have n_ := zA_ (zb (zp zG77 hb)) (zA_ (zb (hbox)) (zA_ (zN1 w.heap.size hg (zo zG77)) (zN1 w.heap.size hg (zo zG77)))); clear HB; obtain ⟨HB, BK258, GW258, GE258⟩ := n_; clear hb hbox hg; obtain ⟨hcz5_0, hcz5_1, hcz5_2, hcz5_3, hcz5_4, hfz5_0, hfz5_1, hfz5_2, hfz5_3, hfz5_4⟩ := zB5 BK258.out))
  go_ret
  exact zH28
 rw [if_neg c3] at H
 have c3b0 := decide_eq_false c3
 clear c3
 replace H := Option.bind_eq_some_iff.mp H
 obtain ⟨t259, A60, H⟩ := H
 replace H : (if t259 < 0 then (some (-1)) else (some t259)) = some r := H
 have A6 := zb A60
 clear A60
 by_cases c7 : t259 < 0
 ·rw [if_pos c7] at H
  have c7b0 := decide_eq_true c7
  clear c7
  obtain rfl := Option.some.inj H
  go_enter Try.func110, Try.ntmps110
  go_wp2_with (first | ((with_reducible refine gate_dst (N := 2) rfl ?_); refine box_event ?hg (N := 2) ?hd (cs := #[.string a0_0, .int .i64 a0_1, .int .i64 a0_2, .int .i64 a0_3, .slice A0_4 l0_4.length c0_4]) (t := 161) ?hr ?_; (case hd => rfl); (case hg => rfl); (case hr => exact zH117); intro gb258 hg w8 hbox hb; have n_ := zA_ (zb (zp zG77 hb)) (zA_ (zb (hbox)) (zA_ (zN1 w.heap.size hg (zo zG77)) (zN1 w.heap.size hg (zo zG77)))); clear HB; obtain ⟨HB, BK258, GW258, GE258⟩ := n_; clear hb hbox hg; obtain ⟨hcz9_0, hcz9_1, hcz9_2, hcz9_3, hcz9_4, hfz9_0, hfz9_1, hfz9_2, hfz9_3, hfz9_4⟩ := zB5 BK258.out) | ((with_reducible refine gate_callee (f := 141) rfl ?_); refine goesL_ (some 15) rfl rfl Try.func141 zG101 rfl #[.slice A0_4 l0_4.length c0_4, .int .i64 (wrap64 (a1 - (a0_0.size : Int)))] rfl zG67 ?_; (with_reducible refine (laws_szStringS.calls k _ _ l0_4 (wrap64 (a1 - (a0_0.size : Int))) t259 _ ?side1 ?side2 A6.out).mono ?_); (case side1 => exact zH56); (case side2 => exact HC0_4.out); rintro e w' ⟨rfl, ⟨nd, rfl⟩⟩; refine ⟨_, rfl, ?_⟩))
  go_ret
  exact zH28
 rw [if_neg c7] at H
 have c7b0 := decide_eq_false c7
 clear c7
 obtain rfl := Option.some.inj H
 go_enter Try.func110, Try.ntmps110
 go_wp2_with (first | ((with_reducible refine gate_dst (N := 2) rfl ?_); refine box_event ?hg (N := 2) ?hd (cs := #[.string a0_0, .int .i64 a0_1, .int .i64 a0_2, .int .i64 a0_3, .slice A0_4 l0_4.length c0_4]) (t := 161) ?hr ?_; (case hd => rfl); (case hg => rfl); (case hr => exact zH117); intro gb258 hg w10 hbox hb; have n_ := zA_ (zb (zp zG77 hb)) (zA_ (zb (hbox)) (zA_ (zN1 w.heap.size hg (zo zG77)) (zN1 w.heap.size hg (zo zG77)))); clear HB; obtain ⟨HB, BK258, GW258, GE258⟩ := n_; clear hb hbox hg; obtain ⟨hcz11_0, hcz11_1, hcz11_2, hcz11_3, hcz11_4, hfz11_0, hfz11_1, hfz11_2, hfz11_3, hfz11_4⟩ := zB5 BK258.out) | ((with_reducible refine gate_callee (f := 141) rfl ?_); refine goesL_ (some 15) rfl rfl Try.func141 zG101 rfl #[.slice A0_4 l0_4.length c0_4, .int .i64 (wrap64 (a1 - (a0_0.size : Int)))] rfl zG67 ?_; (with_reducible refine (laws_szStringS.calls k _ _ l0_4 (wrap64 (a1 - (a0_0.size : Int))) t259 _ ?side1 ?side2 A6.out).mono ?_); (case side1 => exact zH56); (case side2 => exact HC0_4.out); rintro e w' ⟨rfl, ⟨nd, rfl⟩⟩; refine ⟨_, rfl, ?_⟩))
 go_ret
 exact zH28

/-! ### laws_szWorkerS: function 45 -/
def laws_szWorkerS.l0 : Nat → List (S161) → Int → Int → Option (Int)
 | 0, _, _, _ => none
 | k + 1, x0, x1, x5 => if x5 < (x0.length : Int) then (if 0 ≤ x5 then ((laws_szWorker.f k ((rd_T161 x0 x5).f0) ((rd_T161 x0 x5).f1) ((rd_T161 x0 x5).f2) ((rd_T161 x0 x5).f3) ((rd_T161 x0 x5).f4) x1).bind fun t261 => (if t261 < 0 then (some (-1)) else (laws_szWorkerS.l0 k x0 t261 (wrap64 (x5 + 1))))) else (none)) else (some x1)
def laws_szWorkerS.f (k : Nat) (l0 : List (S161)) (a1 : Int) : Option (Int) := if (wrap64 (a1 - (l0.length : Int))) < 0 then (some (-1)) else (laws_szWorkerS.l0 k l0 (wrap64 (a1 - (l0.length : Int))) 0)
theorem laws_szWorkerS.mono_l : ∀ k, (∀ y0 y1 y2, LeO (laws_szWorkerS.l0 k y0 y1 y2) (laws_szWorkerS.l0 (k + 1) y0 y1 y2))
 | 0 => fun _ _ _ r h => by simp [laws_szWorkerS.l0] at h
 | k + 1 => by
  have ih0 := laws_szWorkerS.mono_l k
  ·intro y0 y1 y2
   unfold laws_szWorkerS.l0
   repeat' first
   | (with_reducible exact ih0 _ _ _)
   | (with_reducible exact laws_szWorker.mono _ _ _ _ _ _ _)
   | (with_reducible exact LeO.refl _)
   | (with_reducible exact LeO.none _)
   | (with_reducible refine LeO.ite ?_ ?_)
   | (with_reducible refine LeO.bind ?_ (fun _ => ?_))
   | exact ih0 _ _ _
   | exact laws_szWorker.mono _ _ _ _ _ _ _
   | exact LeO.none _
   | refine LeO.ite ?_ ?_
   | refine LeO.bind ?_ (fun _ => ?_)
theorem laws_szWorkerS.mono : ∀ a0 a1 k, LeO (laws_szWorkerS.f k a0 a1) (laws_szWorkerS.f (k + 1) a0 a1) := by
 intro a0 a1 k
 have ih0 := laws_szWorkerS.mono_l k
 unfold laws_szWorkerS.f
 repeat' first
   | (with_reducible exact ih0 _ _ _)
   | (with_reducible exact laws_szWorker.mono _ _ _ _ _ _ _)
   | (with_reducible exact LeO.refl _)
   | (with_reducible exact LeO.none _)
   | (with_reducible refine LeO.ite ?_ ?_)
   | (with_reducible refine LeO.bind ?_ (fun _ => ?_))
   | exact ih0 _ _ _
   | exact laws_szWorker.mono _ _ _ _ _ _ _
   | exact LeO.none _
   | refine LeO.ite ?_ ?_
   | refine LeO.bind ?_ (fun _ => ?_)
set_option maxHeartbeats 64000000 in
set_option maxRecDepth 100000 in
theorem laws_szWorkerS.calls (k : Nat) (A0 : Option Addr) (c0 : Nat) (l0 : List (S161)) (a1 : Int) (r : Int) (w : World) (hr0 : Kd.C k161 w A0 l0.length l0) (hc0 : l0.length ≤ c0) (h : laws_szWorkerS.f k l0 a1 = some r) :
  Calls Try.prog 45 #[.slice A0 l0.length c0, .int .i64 a1] w fun e w' => e = .returned (.int .i64 r) ∧ Below w.heap.size w w' := by
 have hu161 := Try.underlying161
 obtain ⟨HR0, HC0, HB⟩ := zD3 hr0 hc0 (Below.refl w.heap.size w)
 clear hr0 hc0
 have H : (if (wrap64 (a1 - (l0.length : Int))) < 0 then (some (-1)) else (laws_szWorkerS.l0 k l0 (wrap64 (a1 - (l0.length : Int))) 0)) = some r := h
 clear h
 by_cases c3 : (wrap64 (a1 - (l0.length : Int))) < 0
 ·rw [if_pos c3] at H
  have c3b0 := decide_eq_true c3
  clear c3
  obtain rfl := Option.some.inj H
  go_enter Try.func45, Try.ntmps45
  go_wp2
  go_ret
  exact zH34
 rw [if_neg c3] at H
 have c3b0 := decide_eq_false c3
 clear c3
 have H' := zb H
 clear H
 go_enter Try.func45, Try.ntmps45
 go_wp2
 go_loopg [1, 5] k (fun kq v1 v5 w' => ∃ (x1_1 : Int) (x5_1 : Int), v1 = .int .i64 x1_1 ∧ v5 = .int .i64 x5_1 ∧ Aside0 (laws_szWorkerS.l0 kq l0 x1_1 x5_1 = some r) ∧ Aside0 (kq ≤ k) ∧ Aside0 (Below w.heap.size w w'))
 case atStart => exact ⟨(wrap64 (a1 - (l0.length : Int))), (0), zG100, zG100, H', ⟨Nat.le_refl _⟩, ⟨zH91⟩⟩
 case round =>
  clear H'
  try clear c3
  try clear c3b0
  obtain ⟨x1_1, x5_1, rfl, rfl, HA, HK1, HB⟩ := hrel
  cases gk with
  | zero => exact absurd HA.out (by simp [laws_szWorkerS.l0])
  | succ k1 =>
   have H := HA.out
   clear HA
   simp only [laws_szWorkerS.l0] at H
   by_cases c4 : x5_1 < (l0.length : Int)
   rotate_left
   ·rw [if_neg c4] at H
    have c4b0 := decide_eq_false c4
    clear c4
    obtain rfl := Option.some.inj H
    go_wp2
    go_ret
    exact zH34

   rw [if_pos c4] at H
   have c4b0 := decide_eq_true c4
   clear c4
   by_cases c5 : 0 ≤ x5_1
   rotate_left
   ·rw [if_neg c5] at H
    exact absurd H (by simp)
   rw [if_pos c5] at H
   have c5b0 := decide_eq_true c5
   clear c5
   replace H := Option.bind_eq_some_iff.mp H
   obtain ⟨t261, A60, H⟩ := H
   replace H : (if t261 < 0 then (some (-1)) else (laws_szWorkerS.l0 k1 l0 t261 (wrap64 (x5_1 + 1)))) = some r := H
   have A6 := zb A60
   clear A60
   by_cases c7 : t261 < 0
   ·rw [if_pos c7] at H
    have c7b0 := decide_eq_true c7
    clear c7
    obtain rfl := Option.some.inj H
    have p260 : 0 ≤ (x5_1 : Int) := zO
    have q260 : x5_1 < (l0.length : Int) := zO
    obtain ⟨ad260, A260_4, c260_4, e260, hx260_0, hx260_1, hx260_2, hx260_3, hx260_4, hl260_4, hi260_4⟩ := at_T161 HR0.out x5_1 p260 q260
    cases e260
    replace hx260_0 := (HB.out.cell (za w _ hx260_0)).trans hx260_0
    replace hx260_1 := (HB.out.cell (za w _ hx260_1)).trans hx260_1
    replace hx260_2 := (HB.out.cell (za w _ hx260_2)).trans hx260_2
    replace hx260_3 := (HB.out.cell (za w _ hx260_3)).trans hx260_3
    replace hx260_4 := (HB.out.cell (za w _ hx260_4)).trans hx260_4
    obtain ⟨HR260_4, HC260_4⟩ := zD2 hi260_4 hl260_4
    clear hi260_4 hl260_4
    replace p260 := eq_true p260
    replace q260 := eq_true q260
    go_wp2_with (first | ((with_reducible refine gate_callee (f := 110) rfl ?_); refine goesL_ (some 23) rfl rfl Try.func110 zG101 rfl #[.agg #[.string ((rd_T161 l0 x5_1).f0), .int .i64 ((rd_T161 l0 x5_1).f1), .int .i64 ((rd_T161 l0 x5_1).f2), .int .i64 ((rd_T161 l0 x5_1).f3), .slice A260_4 ((rd_T161 l0 x5_1).f4).length c260_4], .int .i64 x1_1] rfl zG67 ?_; (with_reducible refine (laws_szWorker.calls k1 ((rd_T161 l0 x5_1).f0) ((rd_T161 l0 x5_1).f1) ((rd_T161 l0 x5_1).f2) ((rd_T161 l0 x5_1).f3) _ _ ((rd_T161 l0 x5_1).f4) x1_1 t261 _ ?side1 ?side2 A6.out).mono ?_); (case side1 => exact zH50); (case side2 => exact HC260_4.out); rintro e w8 ⟨rfl, hb⟩; refine ⟨_, rfl, ?_⟩; replace HB := zb (zp zG77 hb); (try clear hb)))
    go_ret
    exact zH34
   rw [if_neg c7] at H
   have c7b0 := decide_eq_false c7
   clear c7
   have H' := zb H
   clear H
   have p260 : 0 ≤ (x5_1 : Int) := zO
   have q260 : x5_1 < (l0.length : Int) := zO
   obtain ⟨ad260, A260_4, c260_4, e260, hx260_0, hx260_1, hx260_2, hx260_3, hx260_4, hl260_4, hi260_4⟩ := at_T161 HR0.out x5_1 p260 q260
   cases e260
   replace hx260_0 := (HB.out.cell (za w _ hx260_0)).trans hx260_0
   replace hx260_1 := (HB.out.cell (za w _ hx260_1)).trans hx260_1
   replace hx260_2 := (HB.out.cell (za w _ hx260_2)).trans hx260_2
   replace hx260_3 := (HB.out.cell (za w _ hx260_3)).trans hx260_3
   replace hx260_4 := (HB.out.cell (za w _ hx260_4)).trans hx260_4
   obtain ⟨HR260_4, HC260_4⟩ := zD2 hi260_4 hl260_4
   clear hi260_4 hl260_4
   replace p260 := eq_true p260
   replace q260 := eq_true q260
   go_wp2_with (first | ((with_reducible refine gate_callee (f := 110) rfl ?_); refine goesL_ (some 23) rfl rfl Try.func110 zG101 rfl #[.agg #[.string ((rd_T161 l0 x5_1).f0), .int .i64 ((rd_T161 l0 x5_1).f1), .int .i64 ((rd_T161 l0 x5_1).f2), .int .i64 ((rd_T161 l0 x5_1).f3), .slice A260_4 ((rd_T161 l0 x5_1).f4).length c260_4], .int .i64 x1_1] rfl zG67 ?_; (with_reducible refine (laws_szWorker.calls k1 ((rd_T161 l0 x5_1).f0) ((rd_T161 l0 x5_1).f1) ((rd_T161 l0 x5_1).f2) ((rd_T161 l0 x5_1).f3) _ _ ((rd_T161 l0 x5_1).f4) x1_1 t261 _ ?side1 ?side2 A6.out).mono ?_); (case side1 => exact zH50); (case side2 => exact HC260_4.out); rintro e w9 ⟨rfl, hb⟩; refine ⟨_, rfl, ?_⟩; replace HB := zb (zp zG77 hb); (try clear hb)))
   go_roundg k1
   case measure => have := HK1.out; omega
   case rel => exact ⟨(t261), (wrap64 (x5_1 + 1)), zG100, zG100, H', ⟨zH120⟩, ⟨zH91⟩⟩
/-! ### laws_toShift: function 111 -/
def laws_toShift.f (a0_0 : Int) (a0_1 : Int) (a0_2 : ByteArray) : Option (Int × Int × ByteArray) := some (a0_0, a0_1, a0_2)
set_option maxHeartbeats 64000000 in
set_option maxRecDepth 100000 in
theorem laws_toShift.calls (a0_0 : Int) (a0_1 : Int) (a0_2 : ByteArray) (r1 : Int) (r2 : Int) (r3 : ByteArray) (w : World) (h : laws_toShift.f a0_0 a0_1 a0_2 = some (r1, r2, r3)) :
  Calls Try.prog 111 #[.agg #[.int .i64 a0_0, .int .i64 a0_1, .string a0_2]] w fun e w' => e = .returned (.agg #[.int .i64 r1, .int .i64 r2, .string r3]) ∧ Below w.heap.size w w' := by
 have hu159 := Try.underlying159
 have hu139 := Try.underlying139
 have HB := zb (Below.refl w.heap.size w)
 have H : (some (a0_0, a0_1, a0_2)) = some (r1, r2, r3) := h
 clear h
 simp only [Option.some.injEq, Prod.mk.injEq] at H
 obtain ⟨rfl, rfl, rfl⟩ := H
 go_enter Try.func111, Try.ntmps111
 go_wp2_with (first | ((with_reducible refine gate_dst (N := 1) rfl ?_); refine box_event ?hg (N := 1) ?hd (cs := #[.int .i64 a0_0, .int .i64 a0_1, .string a0_2]) (t := 159) ?hr ?_; (case hd => rfl); (case hg => rfl); (case hr => exact zH117); intro gb262 hg w2 hbox hb; have n_ := zA_ (zb (zp zG77 hb)) (zA_ (zb (hbox)) (zA_ (zN1 w.heap.size hg (zo zG77)) (zN1 w.heap.size hg (zo zG77)))); clear HB; obtain ⟨HB, BK262, GW262, GE262⟩ := n_; clear hb hbox hg) | ((with_reducible refine gate_dst (N := 2) rfl ?_); refine box_event ?hg (N := 2) ?hd (cs := #[.int .i64 0, .int .i64 0, .string (⟨#[]⟩ : ByteArray)]) (t := 139) ?hr ?_; (case hd => rfl); (case hg => rfl); (case hr => exact zH117); intro gb263 hg w3 hbox hb; have n_ := zA_ (zb (zq (g := gb262) (o := .cells #[.int .i64 a0_0, .int .i64 a0_1, .string a0_2] 159 (0, 0)) zK205 hb)) (zA_ (zb (zp zK183 hb)) (zA_ (zb (hbox)) (zA_ (zN1 w.heap.size hg (zo zK183)) (zA_ (zN1 w.heap.size hg (zo zK183)) (zN2 hg (zaa (g := gb262) (o := .cells #[.int .i64 a0_0, .int .i64 a0_1, .string a0_2] 159 (0, 0)) zK205)))))); clear BK262 HB; obtain ⟨BK262, HB, BK263, GW263, GE263, NB262_263, NB263_262⟩ := n_; clear hb hbox hg) | ((with_reducible refine gate_dst (N := 3) rfl ?_); refine box_event ?hg (N := 3) ?hd (cs := #[.int .i64 0, .int .i64 0, .string (⟨#[]⟩ : ByteArray)]) (t := 139) ?hr ?_; (case hd => rfl); (case hg => rfl); (case hr => exact zH117); intro gb264 hg w4 hbox hb; have n_ := zA_ (zb (zq (g := gb262) (o := .cells #[.int .i64 a0_0, .int .i64 a0_1, .string a0_2] 159 (0, 0)) zK205 hb)) (zA_ (zb (zq (g := gb263) (o := .cells #[.int .i64 0, .int .i64 0, .string (⟨#[]⟩ : ByteArray)] 139 (0, 0)) zK206 hb)) (zA_ (zb (zp zK179 hb)) (zA_ (zb (hbox)) (zA_ (zN1 w.heap.size hg (zo zK179)) (zA_ (zN1 w.heap.size hg (zo zK179)) (zN3 hg (zaa (g := gb262) (o := .cells #[.int .i64 a0_0, .int .i64 a0_1, .string a0_2] 159 (0, 0)) zK205) (zN2 hg (zaa (g := gb263) (o := .cells #[.int .i64 0, .int .i64 0, .string (⟨#[]⟩ : ByteArray)] 139 (0, 0)) zK206)))))))); clear BK262 BK263 HB; obtain ⟨BK262, BK263, HB, BK264, GW264, GE264, NB262_264, NB264_262, NB263_264, NB264_263⟩ := n_; clear hb hbox hg; have hnb5 := NB262_263.out; have hnc5 := NB263_262.out; have hnb6 := NB262_264.out; have hnc6 := NB264_262.out; obtain ⟨hcz7_0, hcz7_1, hcz7_2, hfz7_0, hfz7_1, hfz7_2⟩ := zB3 BK262.out; have hnb8 := NB264_263.out; have hnc8 := NB263_264.out; obtain ⟨hcz9_0, hcz9_1, hcz9_2, hfz9_0, hfz9_1, hfz9_2⟩ := zB3 BK264.out; obtain ⟨hcz10_0, hcz10_1, hcz10_2, hfz10_0, hfz10_1, hfz10_2⟩ := zB3 BK263.out))
 refine bodyPost_ret (results_cell_row rfl _ _ gb263 139 #[.int .i64 a0_0, .int .i64 a0_1, .string a0_2] (0, 0) _ rfl (by (with_reducible repeat (first | refine zf ?_ _ | refine zi ?_ | refine zg ?_ _)); refine zs (cs := #[.int .i64 a0_0, .int .i64 a0_1, .string (⟨#[]⟩ : ByteArray)]) ?_ 2 _ rfl; (with_reducible repeat (first | refine zf ?_ _ | refine zi ?_ | refine zg ?_ _)); refine zs (cs := #[.int .i64 a0_0, .int .i64 0, .string (⟨#[]⟩ : ByteArray)]) ?_ 1 _ rfl; (with_reducible repeat (first | refine zf ?_ _ | refine zi ?_ | refine zg ?_ _)); refine zs (cs := #[.int .i64 0, .int .i64 0, .string (⟨#[]⟩ : ByteArray)]) ?_ 0 _ rfl; (with_reducible repeat (first | refine zf ?_ _ | refine zi ?_ | refine zg ?_ _)); refine zw ?_ NB263_264.out _; (with_reducible repeat (first | refine zf ?_ _ | refine zi ?_ | refine zg ?_ _)); refine zw ?_ NB263_264.out _; (with_reducible repeat (first | refine zf ?_ _ | refine zi ?_ | refine zg ?_ _)); refine zw ?_ NB263_264.out _; (with_reducible repeat (first | refine zf ?_ _ | refine zi ?_ | refine zg ?_ _)); exact BK263.out) Try.underlying139 rfl zG101) rfl ?_
 exact ⟨zH104, by repeat (first | (with_reducible first | exact HB.out | apply ze | apply zc | apply zd | refine zh ?_ GE262.out | refine zh ?_ GE263.out | refine zh ?_ GE264.out) | exact HB.out)⟩

end Go.Proofs.Ytojncbpeeboooaa.U
