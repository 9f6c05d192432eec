-- squeezed
-- made by pp.py (wip/tools) out of the translation; Lean checks it
import Derived.Test.YtojncbpeeboooaaT0
import Derived.Test.YtojncbpeeboooaaT3
import Derived.Test.YtojncbpeeboooaaT4
namespace Go.Proofs.Ytojncbpeeboooaa.T
open Go.RowKit Go.Proofs.YtojncbpeeboooaaW.PrintWords Go.Proofs.YtojncbpeeboooaaW.PrintLast Go.Proofs.YtojncbpeeboooaaW.PrintMore
attribute [local go_sem] max2_int min2_int max_two min_two max_three min_three max_four min_four   -- for this text's walks alone
set_option linter.unusedVariables false
set_option linter.unusedSimpArgs false


/-! ### spec_BestRoute: function 13 -/
def spec_BestRoute.f (k : Nat) (l0 : List (S37)) (a1 : Int) : Option (List Int × List Int × Int × Int × Int) := (spec_l20Begin.f k l0 a1).bind fun t244 => (if t244 = 0 then ((spec_l20Search_try.f k l0 a1 ([] : List Int) ([] : List Int) 0 0 false (([] : List Int))).bind fun bt249 => (if bt249.2.2.2.2 = true then (some (bt249.1, bt249.2.1, bt249.2.2.1, bt249.2.2.2.1, 0)) else (some (([] : List Int), ([] : List Int), 0, 0, 8)))) else (some (([] : List Int), ([] : List Int), 0, 0, t244)))
theorem spec_BestRoute.mono : ∀ a0 a1 k, LeO (spec_BestRoute.f k a0 a1) (spec_BestRoute.f (k + 1) a0 a1) := by
 intro a0 a1 k
 unfold spec_BestRoute.f
 repeat' first
   | (with_reducible exact spec_l20Begin.mono _ _ _)
   | (with_reducible exact spec_l20Search_try.mono _ _ _ _ _ _ _ _ _)
   | (with_reducible exact LeO.refl _)
   | (with_reducible exact LeO.none _)
   | (with_reducible refine LeO.ite ?_ ?_)
   | (with_reducible refine LeO.bind ?_ (fun _ => ?_))
   | exact spec_l20Begin.mono _ _ _
   | exact spec_l20Search_try.mono _ _ _ _ _ _ _ _ _
   | exact LeO.none _
   | refine LeO.ite ?_ ?_
   | refine LeO.bind ?_ (fun _ => ?_)
set_option maxHeartbeats 8000000 in
set_option maxRecDepth 100000 in
theorem spec_BestRoute.calls (k : Nat) (A0 : Option Addr) (c0 : Nat) (l0 : List (S37)) (a1 : Int) (r1 : List Int) (r2 : List Int) (r3 : Int) (r4 : Int) (r5 : Int) (w : World) (hr0 : Kd.C k37 w A0 l0.length l0) (hc0 : l0.length ≤ c0) (h : spec_BestRoute.f k l0 a1 = some (r1, r2, r3, r4, r5)) :
  Calls Try.prog 13 #[.slice A0 l0.length c0, .int .i64 a1] w fun e w' => ∃ v0_ v1_ : Value, e = .returned (.tuple #[.agg #[v0_, v1_, .int .i64 r3, .int .i64 r4], .int .i64 r5]) ∧ Kd.R (Kd.int .i64) 3 w' w.heap.size (fun k_ => some k_ ≠ (v1_ : Value).ownBlock) v0_ r1 ∧ Kd.R (Kd.int .i64) 3 w' w.heap.size (fun k_ => some k_ ≠ (v0_ : Value).ownBlock) v1_ r2 ∧ Below w.heap.size w w' := by
 have hu28 := Try.underlying28
 have hu113 := Try.underlying113
 have HR0 := za hr0
 have HC0 := za hc0
 clear hr0 hc0
 have HB := za (Below.refl w.heap.size w)
 have H : ((spec_l20Begin.f k l0 a1).bind fun t244 => (if t244 = 0 then ((spec_l20Search_try.f k l0 a1 ([] : List Int) ([] : List Int) 0 0 false (([] : List Int))).bind fun bt249 => (if bt249.2.2.2.2 = true then (some (bt249.1, bt249.2.1, bt249.2.2.1, bt249.2.2.2.1, 0)) else (some (([] : List Int), ([] : List Int), 0, 0, 8)))) else (some (([] : List Int), ([] : List Int), 0, 0, t244)))) = some (r1, r2, r3, r4, r5) := h
 clear h
 replace H := Option.bind_eq_some_iff.mp H
 obtain ⟨t244, A30, H⟩ := H
 replace H : (if t244 = 0 then ((spec_l20Search_try.f k l0 a1 ([] : List Int) ([] : List Int) 0 0 false (([] : List Int))).bind fun bt249 => (if bt249.2.2.2.2 = true then (some (bt249.1, bt249.2.1, bt249.2.2.1, bt249.2.2.2.1, 0)) else (some (([] : List Int), ([] : List Int), 0, 0, 8)))) else (some (([] : List Int), ([] : List Int), 0, 0, t244))) = some (r1, r2, r3, r4, r5) := H
 have A3 := za A30
 clear A30
 by_cases c4 : t244 = 0
 rotate_left
 ·rw [if_neg c4] at H
  have c4b0 : (t244 == 0) = false := beq_eq_false_iff_ne.mpr c4
  have c4b1 : (t244 != 0) = true := bne_iff_ne.mpr c4
  simp only [Option.some.injEq, Prod.mk.injEq] at H
  obtain ⟨rfl, rfl, rfl, rfl, rfl⟩ := H
  go_enter Try.func13, Try.ntmps13
  go_wp2_with (first | ((with_reducible refine gate_dst (N := 4) rfl ?_); refine box_event ?hg (N := 4) ?hd (cs := #[.slice none 0 0, .slice none 0 0, .int .i64 0, .int .i64 0]) (t := 28) ?hr ?_; (case hd => rfl); (case hg => rfl); (case hr => exact zH99); intro gb243 hg w29 hbox hb; have n_ := zA_ (za (zu zG76 hb)) (zA_ (za (hbox)) (zA_ (za ((by rw [hg]; exact (zq zG76) : w.heap.size ≤ gb243))) (za ((by rw [hg]; exact (zq zG76) : w.heap.size ≤ gb243))))); clear HB; obtain ⟨HB, BK243, GW243, GE243⟩ := n_; clear hb hbox hg) | ((with_reducible refine gate_callee (f := 68) rfl ?_); refine goesL_ (some 10) rfl rfl Try.func68 zG101 rfl #[.slice A0 l0.length c0, .int .i64 a1] rfl zG68 ?_; (with_reducible refine (spec_l20Begin.calls k _ _ l0 a1 t244 _ ?side1 ?side2 A3.out).mono ?_); (case side1 => exact zH59); (case side2 => exact zH103); rintro e w30 ⟨rfl, hb⟩; refine ⟨_, rfl, ?_⟩; have n_ := zA_ (za (zr (g := gb243) (o := .cells #[.slice none 0 0, .slice none 0 0, .int .i64 0, .int .i64 0] 28 (0, 0)) zG77 hb)) (za (zu zK171 hb)); clear BK243 HB; obtain ⟨BK243, HB⟩ := n_; (try clear hb); have hcz31_0 : w30.cell? ⟨gb243, 0, none⟩ = some (.slice none 0 0) := (zg BK243.out 0).trans rfl; have hcz31_1 : w30.cell? ⟨gb243, 1, none⟩ = some (.slice none 0 0) := (zg BK243.out 1).trans rfl; have hcz31_2 : w30.cell? ⟨gb243, 2, none⟩ = some (.int .i64 0) := (zg BK243.out 2).trans rfl; have hcz31_3 : w30.cell? ⟨gb243, 3, none⟩ = some (.int .i64 0) := (zg BK243.out 3).trans rfl; have hfz31_0 := zh BK243.out 0; have hfz31_1 := zh BK243.out 1; have hfz31_2 := zh BK243.out 2; have hfz31_3 := zh BK243.out 3))
  refine bodyPost_ret (results_ct rfl _ _ gb243 28 #[.slice none 0 0, .slice none 0 0, .int .i64 0, .int .i64 0] (0, 0) _ rfl zK110 Try.underlying28 rfl zG101) rfl ?_
  exact ⟨_, _, zH86, zH67, zH67, by repeat (first | (with_reducible first | exact HB.out | apply zj | apply ze | apply zi | refine zf ?_ GE243.out) | exact HB.out)⟩

 rw [if_pos c4] at H
 have c4b0 : (t244 == 0) = true := beq_iff_eq.mpr c4
 have c4b1 : (t244 != 0) = false := bne_eq_false_iff_eq.mpr c4
 clear c4
 obtain ⟨y246, hy246⟩ : ∃ y_ : List Int, y_ = (([] : List Int)) := ⟨_, rfl⟩
 replace H : ((spec_l20Search_try.f k l0 a1 ([] : List Int) ([] : List Int) 0 0 false y246).bind fun bt249 => (if bt249.2.2.2.2 = true then (some (bt249.1, bt249.2.1, bt249.2.2.1, bt249.2.2.2.1, 0)) else (some (([] : List Int), ([] : List Int), 0, 0, 8)))) = some (r1, r2, r3, r4, r5) := by first | (rw [hy246]; with_reducible exact H) | (have H2_ := (Option.bind_some _ _).symm.trans H; rw [hy246]; with_reducible exact H2_) | (have H2_ := (Option.bind_some _ _).symm.trans H; with_reducible exact H2_) | with_reducible exact H | (rw [hy246]; exact H) | exact H
 have Ny246 := za hy246
 clear hy246
 replace H := Option.bind_eq_some_iff.mp H
 obtain ⟨⟨t249, t252, t255, t256, t257⟩, A50, H⟩ := H
 replace H : (if t257 = true then (some (t249, t252, t255, t256, 0)) else (some (([] : List Int), ([] : List Int), 0, 0, 8))) = some (r1, r2, r3, r4, r5) := H
 have A5 := za A50
 clear A50
 by_cases c6 : t257 = true
 ·subst c6
  have H1 : (some (t249, t252, t255, t256, 0)) = some (r1, r2, r3, r4, r5) := by rw [if_pos rfl] at H; exact H
  clear H
  have H := H1
  clear H1
  simp only [Option.some.injEq, Prod.mk.injEq] at H
  obtain ⟨rfl, rfl, rfl, rfl, rfl⟩ := H
  go_enter Try.func13, Try.ntmps13
  go_wp2_with (first | ((with_reducible refine gate_dst (N := 4) rfl ?_); refine box_event ?hg (N := 4) ?hd (cs := #[.slice none 0 0, .slice none 0 0, .int .i64 0, .int .i64 0]) (t := 28) ?hr ?_; (case hd => rfl); (case hg => rfl); (case hr => exact zH99); intro gb243 hg w7 hbox hb; have n_ := zA_ (za (zu zG76 hb)) (zA_ (za (hbox)) (zA_ (za ((by rw [hg]; exact (zq zG76) : w.heap.size ≤ gb243))) (za ((by rw [hg]; exact (zq zG76) : w.heap.size ≤ gb243))))); clear HB; obtain ⟨HB, BK243, GW243, GE243⟩ := n_; clear hb hbox hg) | ((with_reducible refine gate_callee (f := 68) rfl ?_); refine goesL_ (some 10) rfl rfl Try.func68 zG101 rfl #[.slice A0 l0.length c0, .int .i64 a1] rfl zG68 ?_; (with_reducible refine (spec_l20Begin.calls k _ _ l0 a1 t244 _ ?side1 ?side2 A3.out).mono ?_); (case side1 => exact zH59); (case side2 => exact zH103); rintro e w8 ⟨rfl, hb⟩; refine ⟨_, rfl, ?_⟩; have n_ := zA_ (za (zr (g := gb243) (o := .cells #[.slice none 0 0, .slice none 0 0, .int .i64 0, .int .i64 0] 28 (0, 0)) zG77 hb)) (za (zu zK171 hb)); clear BK243 HB; obtain ⟨BK243, HB⟩ := n_; (try clear hb); (try clear hk)) | ((with_reducible refine gate_dst (N := 18) rfl ?_); refine box_event ?hg (N := 18) ?hd (cs := #[.slice A0 l0.length c0, .int .i64 a1, .slice none 0 0, .slice none 0 0, .int .i64 0, .int .i64 0, .bool false]) (t := 113) ?hr ?_; (case hd => rfl); (case hg => rfl); (case hr => exact zH99); intro gb245 hg w9 hbox hb; have n_ := zA_ (za (zr (g := gb243) (o := .cells #[.slice none 0 0, .slice none 0 0, .int .i64 0, .int .i64 0] 28 (0, 0)) zG77 hb)) (zA_ (za (zu zK171 hb)) (zA_ (za (hbox)) (zA_ (za ((by rw [hg]; exact (zq zK171) : w.heap.size ≤ gb245))) (zA_ (za ((by rw [hg]; exact (zq zK171) : w.heap.size ≤ gb245))) (zA_ (za ((by rw [hg]; exact Nat.ne_of_lt (zx (g := gb243) (o := .cells #[.slice none 0 0, .slice none 0 0, .int .i64 0, .int .i64 0] 28 (0, 0)) zG77) : gb243 ≠ gb245))) (za ((by rw [hg]; exact Nat.ne_of_gt (zx (g := gb243) (o := .cells #[.slice none 0 0, .slice none 0 0, .int .i64 0, .int .i64 0] 28 (0, 0)) zG77) : gb245 ≠ gb243)))))))); clear BK243 HB; obtain ⟨BK243, HB, BK245, GW245, GE245, NB243_245, NB245_243⟩ := n_; clear hb hbox hg) | ((with_reducible refine gate_dst (N := 20) rfl ?_); refine Kd.R_lit (Kd.int .i64) _ 3 ?hg (N := 20) ?hd (xs := ([] : List Int)) (inner := []) (ok := fun _ => True) (okp := fun _ => True) ?hr ?hp (fun _ hk => hk) trivial (Below.refl _ _) (Nat.le_refl _) (by simp) ?_; (case hd => rfl); (case hg => rfl); (case hr => exact zH99); (case hp => exact (Reps.none _ _)); intro v247 w10 ho11 hb hg_ hnew_; clear hg_ hnew_; (first | rw [← Ny246.out] at ho11 | (simp only [Int.reduceToNat] at ho11; rw [← Ny246.out] at ho11)); have n_ := zA_ (za (zag ho11 (zq zK164))) (zA_ (za (zr (g := gb243) (o := .cells #[.slice none 0 0, .slice none 0 0, .int .i64 0, .int .i64 0] 28 (0, 0)) zG77 hb)) (zA_ (za (zr (g := gb245) (o := .cells #[.slice A0 l0.length c0, .int .i64 a1, .slice none 0 0, .slice none 0 0, .int .i64 0, .int .i64 0, .bool false] 113 (0, 0)) (by (with_reducible repeat (first | refine zc ?_ _ | refine zd ?_ | refine zb ?_ _)); exact BK245.out) hb)) (za (zu zK164 hb)))); clear BK243 BK245 HB; obtain ⟨HO248, BK243, BK245, HB⟩ := n_; clear hb ho11; obtain ⟨Ao12, co12, eo12⟩ := zaf HO248.out; subst eo12) | ((with_reducible refine gate_callee (f := 69) rfl ?_); refine goesL_ (some 21) rfl rfl Try.func69 zG101 rfl #[.pointer (some ⟨gb245, 0, none⟩), .slice Ao12 y246.length co12] rfl zG68 ?_; (refine (spec_l20Search_try.calls k gb245 A0 c0 l0 a1 (fun k_ => some k_ = (.slice none 0 0 : Value).ownBlock) (.slice none 0 0) ([] : List Int) (fun k_ => some k_ = (.slice none 0 0 : Value).ownBlock) (.slice none 0 0) ([] : List Int) 0 0 false _ _ y246 t249 t252 t255 t256 true w _ ?side1 ?side2 ?side3 ?side4 ?side5 ?side6 ?side7 ?side8 ?side9 ?side10 ?side11 A5.out).mono ?_); (case side1 => exact zH53); (case side2 => exact zH74); (case side3 => exact GE245.out); (case side4 => exact zH12); (case side5 => exact zH103); (case side6 => exact zam _ _ _ _ _); (case side7 => exact zH97); (case side8 => exact zam _ _ _ _ _); (case side9 => exact zH97); (case side10 => exact zH21); (case side11 => exact (Kd.R_reads' HO248.out).2.1); rintro e w13 ⟨v250, v253, rfl, ho0, ho1, hz0, hb, hkp⟩; refine ⟨_, rfl, ?_⟩; have n_ := zA_ (za (zao zG77 hkp (fun hs_ => Or.elim hs_ (fun hs_ => Or.elim hs_ (fun e_ => (fun e_ => by simp [Value.ownBlock] at e_) e_) (fun e_ => (fun e_ => by simp [Value.ownBlock] at e_) e_)) (fun e_ => NB243_245.out e_)))) (zA_ (za (hz0)) (zA_ (za (zp (ok' := fun k_ => some k_ ≠ (v250 : Value).ownBlock ∧ some k_ ≠ (v253 : Value).ownBlock) (zan ((zv HO248.out BK245.out zG102)) hkp (fun k_ hk_ hs_ => Or.elim hs_ (fun hs_ => Or.elim hs_ (fun e_ => (fun e_ => by simp [Value.ownBlock] at e_) e_) (fun e_ => (fun e_ => by simp [Value.ownBlock] at e_) e_)) (fun e_ => (hk_.2) e_))) (fun k_ hk_ => ⟨fun e_ => Or.elim (ho0.1 k_ e_.symm).1 (fun hs_ => hk_.2.1 (Or.inl hs_)) (fun hn_ => Nat.not_le.2 hk_.2.2 hn_), fun e_ => Or.elim (ho1.1 k_ e_.symm).1 (fun hs_ => hk_.2.1 (Or.inl hs_)) (fun hn_ => Nat.not_le.2 hk_.2.2 hn_)⟩))) (zA_ (za (zp (ok' := fun k_ => some k_ ≠ (v253 : Value).ownBlock ∧ some k_ ≠ (.slice Ao12 y246.length co12 : Value).ownBlock) ho0 (fun k_ hk_ => ⟨hk_.2, Or.elim hk_.1 (fun hs_ => Or.elim hs_ (fun hs_ => absurd hs_ zK215) (fun hs_ => absurd hs_ zK215)) (fun hn_ => (Kd.fresh' (zaa zK204) k_ hn_))⟩))) (zA_ (za (zp (ok' := fun k_ => some k_ ≠ (v250 : Value).ownBlock ∧ some k_ ≠ (.slice Ao12 y246.length co12 : Value).ownBlock) ho1 (fun k_ hk_ => ⟨hk_.2, Or.elim hk_.1 (fun hs_ => Or.elim hs_ (fun hs_ => absurd hs_ zK215) (fun hs_ => absurd hs_ zK215)) (fun hn_ => (Kd.fresh' (zaa zK204) k_ hn_))⟩))) (za (hb)))))); clear BK243 BK245 HO248 HB; obtain ⟨BK243, BK245, HO248, HO251, HO254, HB⟩ := n_; (try clear hb); (try clear hkp); (try clear ho0); (try clear ho1); (try clear hz0); have hnb14 := NB245_243.out; have hnc14 := NB243_245.out; have hcz15_0 : w13.cell? ⟨gb245, 0, none⟩ = some (.slice A0 l0.length c0) := (zg BK245.out 0).trans rfl; have hcz15_1 : w13.cell? ⟨gb245, 1, none⟩ = some (.int .i64 a1) := (zg BK245.out 1).trans rfl; have hcz15_2 : w13.cell? ⟨gb245, 2, none⟩ = some (v250) := (zg BK245.out 2).trans rfl; have hcz15_3 : w13.cell? ⟨gb245, 3, none⟩ = some (v253) := (zg BK245.out 3).trans rfl; have hcz15_4 : w13.cell? ⟨gb245, 4, none⟩ = some (.int .i64 t255) := (zg BK245.out 4).trans rfl; have hcz15_5 : w13.cell? ⟨gb245, 5, none⟩ = some (.int .i64 t256) := (zg BK245.out 5).trans rfl; have hcz15_6 : w13.cell? ⟨gb245, 6, none⟩ = some (.bool true) := (zg BK245.out 6).trans rfl; have hfz15_0 := zh BK245.out 0; have hfz15_1 := zh BK245.out 1; have hfz15_2 := zh BK245.out 2; have hfz15_3 := zh BK245.out 3; have hfz15_4 := zh BK245.out 4; have hfz15_5 := zh BK245.out 5; have hfz15_6 := zh BK245.out 6; obtain ⟨Ao16, co16, eo16⟩ := zaf HO251.out; subst eo16; have hcz17_0 : w13.cell? ⟨gb243, 0, none⟩ = some (.slice none 0 0) := (zg BK243.out 0).trans rfl; have hcz17_1 : w13.cell? ⟨gb243, 1, none⟩ = some (.slice none 0 0) := (zg BK243.out 1).trans rfl; have hcz17_2 : w13.cell? ⟨gb243, 2, none⟩ = some (.int .i64 0) := (zg BK243.out 2).trans rfl; have hcz17_3 : w13.cell? ⟨gb243, 3, none⟩ = some (.int .i64 0) := (zg BK243.out 3).trans rfl; have hfz17_0 := zh BK243.out 0; have hfz17_1 := zh BK243.out 1; have hfz17_2 := zh BK243.out 2; have hfz17_3 := zh BK243.out 3; obtain ⟨Ao18, co18, eo18⟩ := zaf HO254.out; subst eo18))
  refine bodyPost_ret (results_ct rfl _ _ gb243 28 #[.slice Ao16 t249.length co16, .slice Ao18 t252.length co18, .int .i64 t255, .int .i64 t256] (0, 0) _ rfl (by (with_reducible repeat (first | refine zc ?_ _ | refine zd ?_ | refine zb ?_ _)); refine zw (cs := #[.slice Ao16 t249.length co16, .slice Ao18 t252.length co18, .int .i64 t255, .int .i64 0]) ?_ 3 _ rfl; (with_reducible repeat (first | refine zc ?_ _ | refine zd ?_ | refine zb ?_ _)); refine zw (cs := #[.slice Ao16 t249.length co16, .slice Ao18 t252.length co18, .int .i64 0, .int .i64 0]) ?_ 2 _ rfl; (with_reducible repeat (first | refine zc ?_ _ | refine zd ?_ | refine zb ?_ _)); refine zw (cs := #[.slice Ao16 t249.length co16, .slice none 0 0, .int .i64 0, .int .i64 0]) ?_ 1 _ rfl; (with_reducible repeat (first | refine zc ?_ _ | refine zd ?_ | refine zb ?_ _)); refine zw (cs := #[.slice none 0 0, .slice none 0 0, .int .i64 0, .int .i64 0]) ?_ 0 _ rfl; (with_reducible repeat (first | refine zc ?_ _ | refine zd ?_ | refine zb ?_ _)); exact BK243.out) Try.underlying28 rfl zG101) rfl ?_
  exact ⟨_, _, zH86, by (with_reducible repeat (first | apply zk | apply zl | apply zm)); exact zp (zn (p := ⟨gb243, 3, none⟩) (zn (p := ⟨gb243, 2, none⟩) (zn (p := ⟨gb243, 1, none⟩) (zn (p := ⟨gb243, 0, none⟩) (zv HO251.out BK243.out zG102) (fun _ hk => hk.2) (.slice Ao16 t249.length co16)) (fun _ hk => hk.2) (.slice Ao18 t252.length co18)) (fun _ hk => hk.2) (.int .i64 t255)) (fun _ hk => hk.2) (.int .i64 t256)) (fun _ hk => hk.1.1), by (with_reducible repeat (first | apply zk | apply zl | apply zm)); exact zp (zn (p := ⟨gb243, 3, none⟩) (zn (p := ⟨gb243, 2, none⟩) (zn (p := ⟨gb243, 1, none⟩) (zn (p := ⟨gb243, 0, none⟩) (zv HO254.out BK243.out zG102) (fun _ hk => hk.2) (.slice Ao16 t249.length co16)) (fun _ hk => hk.2) (.slice Ao18 t252.length co18)) (fun _ hk => hk.2) (.int .i64 t255)) (fun _ hk => hk.2) (.int .i64 t256)) (fun _ hk => hk.1.1), zH48⟩
 replace c6 := Bool.eq_false_iff.mpr c6
 subst c6
 have H1 : (some (([] : List Int), ([] : List Int), 0, 0, 8)) = some (r1, r2, r3, r4, r5) := by rw [if_neg (show ¬ (false = true) by decide)] at H; exact H
 clear H
 have H := H1
 clear H1
 simp only [Option.some.injEq, Prod.mk.injEq] at H
 obtain ⟨rfl, rfl, rfl, rfl, rfl⟩ := H
 go_enter Try.func13, Try.ntmps13
 go_wp2_with (first | ((with_reducible refine gate_dst (N := 4) rfl ?_); refine box_event ?hg (N := 4) ?hd (cs := #[.slice none 0 0, .slice none 0 0, .int .i64 0, .int .i64 0]) (t := 28) ?hr ?_; (case hd => rfl); (case hg => rfl); (case hr => exact zH99); intro gb243 hg w19 hbox hb; have n_ := zA_ (za (zu zG76 hb)) (zA_ (za (hbox)) (zA_ (za ((by rw [hg]; exact (zq zG76) : w.heap.size ≤ gb243))) (za ((by rw [hg]; exact (zq zG76) : w.heap.size ≤ gb243))))); clear HB; obtain ⟨HB, BK243, GW243, GE243⟩ := n_; clear hb hbox hg) | ((with_reducible refine gate_callee (f := 68) rfl ?_); refine goesL_ (some 10) rfl rfl Try.func68 zG101 rfl #[.slice A0 l0.length c0, .int .i64 a1] rfl zG68 ?_; (with_reducible refine (spec_l20Begin.calls k _ _ l0 a1 t244 _ ?side1 ?side2 A3.out).mono ?_); (case side1 => exact zH59); (case side2 => exact zH103); rintro e w20 ⟨rfl, hb⟩; refine ⟨_, rfl, ?_⟩; have n_ := zA_ (za (zr (g := gb243) (o := .cells #[.slice none 0 0, .slice none 0 0, .int .i64 0, .int .i64 0] 28 (0, 0)) zG77 hb)) (za (zu zK171 hb)); clear BK243 HB; obtain ⟨BK243, HB⟩ := n_; (try clear hb); (try clear hk)) | ((with_reducible refine gate_dst (N := 18) rfl ?_); refine box_event ?hg (N := 18) ?hd (cs := #[.slice A0 l0.length c0, .int .i64 a1, .slice none 0 0, .slice none 0 0, .int .i64 0, .int .i64 0, .bool false]) (t := 113) ?hr ?_; (case hd => rfl); (case hg => rfl); (case hr => exact zH99); intro gb245 hg w21 hbox hb; have n_ := zA_ (za (zr (g := gb243) (o := .cells #[.slice none 0 0, .slice none 0 0, .int .i64 0, .int .i64 0] 28 (0, 0)) zG77 hb)) (zA_ (za (zu zK171 hb)) (zA_ (za (hbox)) (zA_ (za ((by rw [hg]; exact (zq zK171) : w.heap.size ≤ gb245))) (zA_ (za ((by rw [hg]; exact (zq zK171) : w.heap.size ≤ gb245))) (zA_ (za ((by rw [hg]; exact Nat.ne_of_lt (zx (g := gb243) (o := .cells #[.slice none 0 0, .slice none 0 0, .int .i64 0, .int .i64 0] 28 (0, 0)) zG77) : gb243 ≠ gb245))) (za ((by rw [hg]; exact Nat.ne_of_gt (zx (g := gb243) (o := .cells #[.slice none 0 0, .slice none 0 0, .int .i64 0, .int .i64 0] 28 (0, 0)) zG77) : gb245 ≠ gb243)))))))); clear BK243 HB; obtain ⟨BK243, HB, BK245, GW245, GE245, NB243_245, NB245_243⟩ := n_; clear hb hbox hg) | ((with_reducible refine gate_dst (N := 20) rfl ?_); refine Kd.R_lit (Kd.int .i64) _ 3 ?hg (N := 20) ?hd (xs := ([] : List Int)) (inner := []) (ok := fun _ => True) (okp := fun _ => True) ?hr ?hp (fun _ hk => hk) trivial (Below.refl _ _) (Nat.le_refl _) (by simp) ?_; (case hd => rfl); (case hg => rfl); (case hr => exact zH99); (case hp => exact (Reps.none _ _)); intro v247 w22 ho23 hb hg_ hnew_; clear hg_ hnew_; (first | rw [← Ny246.out] at ho23 | (simp only [Int.reduceToNat] at ho23; rw [← Ny246.out] at ho23)); have n_ := zA_ (za (zag ho23 (zq zK164))) (zA_ (za (zr (g := gb243) (o := .cells #[.slice none 0 0, .slice none 0 0, .int .i64 0, .int .i64 0] 28 (0, 0)) zG77 hb)) (zA_ (za (zr (g := gb245) (o := .cells #[.slice A0 l0.length c0, .int .i64 a1, .slice none 0 0, .slice none 0 0, .int .i64 0, .int .i64 0, .bool false] 113 (0, 0)) (by (with_reducible repeat (first | refine zc ?_ _ | refine zd ?_ | refine zb ?_ _)); exact BK245.out) hb)) (za (zu zK164 hb)))); clear BK243 BK245 HB; obtain ⟨HO248, BK243, BK245, HB⟩ := n_; clear hb ho23; obtain ⟨Ao24, co24, eo24⟩ := zaf HO248.out; subst eo24) | ((with_reducible refine gate_callee (f := 69) rfl ?_); refine goesL_ (some 21) rfl rfl Try.func69 zG101 rfl #[.pointer (some ⟨gb245, 0, none⟩), .slice Ao24 y246.length co24] rfl zG68 ?_; (refine (spec_l20Search_try.calls k gb245 A0 c0 l0 a1 (fun k_ => some k_ = (.slice none 0 0 : Value).ownBlock) (.slice none 0 0) ([] : List Int) (fun k_ => some k_ = (.slice none 0 0 : Value).ownBlock) (.slice none 0 0) ([] : List Int) 0 0 false _ _ y246 t249 t252 t255 t256 false w _ ?side1 ?side2 ?side3 ?side4 ?side5 ?side6 ?side7 ?side8 ?side9 ?side10 ?side11 A5.out).mono ?_); (case side1 => exact zH53); (case side2 => exact zH74); (case side3 => exact GE245.out); (case side4 => exact zH12); (case side5 => exact zH103); (case side6 => exact zam _ _ _ _ _); (case side7 => exact zH97); (case side8 => exact zam _ _ _ _ _); (case side9 => exact zH97); (case side10 => exact zH21); (case side11 => exact (Kd.R_reads' HO248.out).2.1); rintro e w25 ⟨v250, v253, rfl, ho0, ho1, hz0, hb, hkp⟩; refine ⟨_, rfl, ?_⟩; have n_ := zA_ (za (zao zG77 hkp (fun hs_ => Or.elim hs_ (fun hs_ => Or.elim hs_ (fun e_ => (fun e_ => by simp [Value.ownBlock] at e_) e_) (fun e_ => (fun e_ => by simp [Value.ownBlock] at e_) e_)) (fun e_ => NB243_245.out e_)))) (zA_ (za (hz0)) (zA_ (za (zp (ok' := fun k_ => some k_ ≠ (v250 : Value).ownBlock ∧ some k_ ≠ (v253 : Value).ownBlock) (zan ((zv HO248.out BK245.out zG102)) hkp (fun k_ hk_ hs_ => Or.elim hs_ (fun hs_ => Or.elim hs_ (fun e_ => (fun e_ => by simp [Value.ownBlock] at e_) e_) (fun e_ => (fun e_ => by simp [Value.ownBlock] at e_) e_)) (fun e_ => (hk_.2) e_))) (fun k_ hk_ => ⟨fun e_ => Or.elim (ho0.1 k_ e_.symm).1 (fun hs_ => hk_.2.1 (Or.inl hs_)) (fun hn_ => Nat.not_le.2 hk_.2.2 hn_), fun e_ => Or.elim (ho1.1 k_ e_.symm).1 (fun hs_ => hk_.2.1 (Or.inl hs_)) (fun hn_ => Nat.not_le.2 hk_.2.2 hn_)⟩))) (zA_ (za (zp (ok' := fun k_ => some k_ ≠ (v253 : Value).ownBlock ∧ some k_ ≠ (.slice Ao24 y246.length co24 : Value).ownBlock) ho0 (fun k_ hk_ => ⟨hk_.2, Or.elim hk_.1 (fun hs_ => Or.elim hs_ (fun hs_ => absurd hs_ zK215) (fun hs_ => absurd hs_ zK215)) (fun hn_ => (Kd.fresh' (zaa zK204) k_ hn_))⟩))) (zA_ (za (zp (ok' := fun k_ => some k_ ≠ (v250 : Value).ownBlock ∧ some k_ ≠ (.slice Ao24 y246.length co24 : Value).ownBlock) ho1 (fun k_ hk_ => ⟨hk_.2, Or.elim hk_.1 (fun hs_ => Or.elim hs_ (fun hs_ => absurd hs_ zK215) (fun hs_ => absurd hs_ zK215)) (fun hn_ => (Kd.fresh' (zaa zK204) k_ hn_))⟩))) (za (hb)))))); clear BK243 BK245 HO248 HB; obtain ⟨BK243, BK245, HO248, HO251, HO254, HB⟩ := n_; (try clear hb); (try clear hkp); (try clear ho0); (try clear ho1); (try clear hz0); have hnb26 := NB245_243.out; have hnc26 := NB243_245.out; have hcz27_0 : w25.cell? ⟨gb245, 0, none⟩ = some (.slice A0 l0.length c0) := (zg BK245.out 0).trans rfl; have hcz27_1 : w25.cell? ⟨gb245, 1, none⟩ = some (.int .i64 a1) := (zg BK245.out 1).trans rfl; have hcz27_2 : w25.cell? ⟨gb245, 2, none⟩ = some (v250) := (zg BK245.out 2).trans rfl; have hcz27_3 : w25.cell? ⟨gb245, 3, none⟩ = some (v253) := (zg BK245.out 3).trans rfl; have hcz27_4 : w25.cell? ⟨gb245, 4, none⟩ = some (.int .i64 t255) := (zg BK245.out 4).trans rfl; have hcz27_5 : w25.cell? ⟨gb245, 5, none⟩ = some (.int .i64 t256) := (zg BK245.out 5).trans rfl; have hcz27_6 : w25.cell? ⟨gb245, 6, none⟩ = some (.bool false) := (zg BK245.out 6).trans rfl; have hfz27_0 := zh BK245.out 0; have hfz27_1 := zh BK245.out 1; have hfz27_2 := zh BK245.out 2; have hfz27_3 := zh BK245.out 3; have hfz27_4 := zh BK245.out 4; have hfz27_5 := zh BK245.out 5; have hfz27_6 := zh BK245.out 6; have hcz28_0 : w25.cell? ⟨gb243, 0, none⟩ = some (.slice none 0 0) := (zg BK243.out 0).trans rfl; have hcz28_1 : w25.cell? ⟨gb243, 1, none⟩ = some (.slice none 0 0) := (zg BK243.out 1).trans rfl; have hcz28_2 : w25.cell? ⟨gb243, 2, none⟩ = some (.int .i64 0) := (zg BK243.out 2).trans rfl; have hcz28_3 : w25.cell? ⟨gb243, 3, none⟩ = some (.int .i64 0) := (zg BK243.out 3).trans rfl; have hfz28_0 := zh BK243.out 0; have hfz28_1 := zh BK243.out 1; have hfz28_2 := zh BK243.out 2; have hfz28_3 := zh BK243.out 3))
 refine bodyPost_ret (results_ct rfl _ _ gb243 28 #[.slice none 0 0, .slice none 0 0, .int .i64 0, .int .i64 0] (0, 0) _ rfl zK110 Try.underlying28 rfl zG101) rfl ?_
 exact ⟨_, _, zH86, zH67, zH67, zH48⟩
/-! ### laws_szStopS: function 16 -/
def laws_szStopS.f (l0 : List (S116)) (a1 : Int) : Option (Int) := if (wrap64 (a1 - (l0.length : Int))) < 0 then (some (-1)) else (some (wrap64 (a1 - (l0.length : Int))))
set_option maxHeartbeats 8000000 in
set_option maxRecDepth 100000 in
theorem laws_szStopS.calls (A0 : Option Addr) (c0 : Nat) (l0 : List (S116)) (a1 : Int) (r : Int) (w : World) (hr0 : Kd.C k116 w A0 l0.length l0) (hc0 : l0.length ≤ c0) (h : laws_szStopS.f l0 a1 = some r) :
  Calls Try.prog 16 #[.slice A0 l0.length c0, .int .i64 a1] w fun e w' => e = .returned (.int .i64 r) ∧ Drawn0 w w' := by
 have HR0 := za hr0
 have HC0 := za hc0
 clear hr0 hc0
 have H : (if (wrap64 (a1 - (l0.length : Int))) < 0 then (some (-1)) else (some (wrap64 (a1 - (l0.length : Int))))) = some r := h
 clear h
 by_cases c3 : (wrap64 (a1 - (l0.length : Int))) < 0
 ·rw [if_pos c3] at H
  have c3b0 := decide_eq_true c3
  clear c3
  obtain rfl := Option.some.inj H
  go_enter Try.func16, Try.ntmps16
  go_wp2
  go_ret
  exact zH68
 rw [if_neg c3] at H
 have c3b0 := decide_eq_false c3
 clear c3
 obtain rfl := Option.some.inj H
 go_enter Try.func16, Try.ntmps16
 go_wp2
 go_ret
 exact zH68

/-! ### laws_toStop: function 71 -/
def laws_toStop.f (a0_0 : Int) (a0_1 : Int) (a0_2 : Int) (a0_3 : Int) (a0_4 : Int) : Option (Int × Int × Int × Int × Int) := some (a0_0, a0_1, a0_2, a0_3, a0_4)
set_option maxHeartbeats 8000000 in
set_option maxRecDepth 100000 in
theorem laws_toStop.calls (a0_0 : Int) (a0_1 : Int) (a0_2 : Int) (a0_3 : Int) (a0_4 : Int) (r1 : Int) (r2 : Int) (r3 : Int) (r4 : Int) (r5 : Int) (w : World) (h : laws_toStop.f a0_0 a0_1 a0_2 a0_3 a0_4 = some (r1, r2, r3, r4, r5)) :
  Calls Try.prog 71 #[.agg #[.int .i64 a0_0, .int .i64 a0_1, .int .i64 a0_2, .int .i64 a0_3, .int .i64 a0_4]] w fun e w' => e = .returned (.agg #[.int .i64 r1, .int .i64 r2, .int .i64 r3, .int .i64 r4, .int .i64 r5]) ∧ Below w.heap.size w w' := by
 have hu116 := Try.underlying116
 have hu37 := Try.underlying37
 have HB := za (Below.refl w.heap.size w)
 have H : (some (a0_0, a0_1, a0_2, a0_3, a0_4)) = some (r1, r2, r3, r4, r5) := h
 clear h
 simp only [Option.some.injEq, Prod.mk.injEq] at H
 obtain ⟨rfl, rfl, rfl, rfl, rfl⟩ := H
 go_enter Try.func71, Try.ntmps71
 go_wp2_with (first | ((with_reducible refine gate_dst (N := 1) rfl ?_); refine box_event ?hg (N := 1) ?hd (cs := #[.int .i64 a0_0, .int .i64 a0_1, .int .i64 a0_2, .int .i64 a0_3, .int .i64 a0_4]) (t := 116) ?hr ?_; (case hd => rfl); (case hg => rfl); (case hr => exact zH99); intro gb258 hg w2 hbox hb; have n_ := zA_ (za (zu zG76 hb)) (zA_ (za (hbox)) (zA_ (za ((by rw [hg]; exact (zq zG76) : w.heap.size ≤ gb258))) (za ((by rw [hg]; exact (zq zG76) : w.heap.size ≤ gb258))))); clear HB; obtain ⟨HB, BK258, GW258, GE258⟩ := n_; clear hb hbox hg) | ((with_reducible refine gate_dst (N := 2) rfl ?_); refine box_event ?hg (N := 2) ?hd (cs := #[.int .i64 0, .int .i64 0, .int .i64 0, .int .i64 0, .int .i64 0]) (t := 37) ?hr ?_; (case hd => rfl); (case hg => rfl); (case hr => exact zH99); intro gb259 hg w3 hbox hb; have n_ := zA_ (za (zr (g := gb258) (o := .cells #[.int .i64 a0_0, .int .i64 a0_1, .int .i64 a0_2, .int .i64 a0_3, .int .i64 a0_4] 116 (0, 0)) zK182 hb)) (zA_ (za (zu zK172 hb)) (zA_ (za (hbox)) (zA_ (za ((by rw [hg]; exact (zq zK172) : w.heap.size ≤ gb259))) (zA_ (za ((by rw [hg]; exact (zq zK172) : w.heap.size ≤ gb259))) (zA_ (za ((by rw [hg]; exact Nat.ne_of_lt (zx (g := gb258) (o := .cells #[.int .i64 a0_0, .int .i64 a0_1, .int .i64 a0_2, .int .i64 a0_3, .int .i64 a0_4] 116 (0, 0)) zK182) : gb258 ≠ gb259))) (za ((by rw [hg]; exact Nat.ne_of_gt (zx (g := gb258) (o := .cells #[.int .i64 a0_0, .int .i64 a0_1, .int .i64 a0_2, .int .i64 a0_3, .int .i64 a0_4] 116 (0, 0)) zK182) : gb259 ≠ gb258)))))))); clear BK258 HB; obtain ⟨BK258, HB, BK259, GW259, GE259, NB258_259, NB259_258⟩ := n_; clear hb hbox hg) | ((with_reducible refine gate_dst (N := 3) rfl ?_); refine box_event ?hg (N := 3) ?hd (cs := #[.int .i64 0, .int .i64 0, .int .i64 0, .int .i64 0, .int .i64 0]) (t := 37) ?hr ?_; (case hd => rfl); (case hg => rfl); (case hr => exact zH99); intro gb260 hg w4 hbox hb; have n_ := zA_ (za (zr (g := gb258) (o := .cells #[.int .i64 a0_0, .int .i64 a0_1, .int .i64 a0_2, .int .i64 a0_3, .int .i64 a0_4] 116 (0, 0)) zK182 hb)) (zA_ (za (zr (g := gb259) (o := .cells #[.int .i64 0, .int .i64 0, .int .i64 0, .int .i64 0, .int .i64 0] 37 (0, 0)) zK183 hb)) (zA_ (za (zu zK165 hb)) (zA_ (za (hbox)) (zA_ (za ((by rw [hg]; exact (zq zK165) : w.heap.size ≤ gb260))) (zA_ (za ((by rw [hg]; exact (zq zK165) : w.heap.size ≤ gb260))) (zA_ (za ((by rw [hg]; exact Nat.ne_of_lt (zx (g := gb258) (o := .cells #[.int .i64 a0_0, .int .i64 a0_1, .int .i64 a0_2, .int .i64 a0_3, .int .i64 a0_4] 116 (0, 0)) zK182) : gb258 ≠ gb260))) (zA_ (za ((by rw [hg]; exact Nat.ne_of_gt (zx (g := gb258) (o := .cells #[.int .i64 a0_0, .int .i64 a0_1, .int .i64 a0_2, .int .i64 a0_3, .int .i64 a0_4] 116 (0, 0)) zK182) : gb260 ≠ gb258))) (zA_ (za ((by rw [hg]; exact Nat.ne_of_lt (zx (g := gb259) (o := .cells #[.int .i64 0, .int .i64 0, .int .i64 0, .int .i64 0, .int .i64 0] 37 (0, 0)) zK183) : gb259 ≠ gb260))) (za ((by rw [hg]; exact Nat.ne_of_gt (zx (g := gb259) (o := .cells #[.int .i64 0, .int .i64 0, .int .i64 0, .int .i64 0, .int .i64 0] 37 (0, 0)) zK183) : gb260 ≠ gb259))))))))))); clear BK258 BK259 HB; obtain ⟨BK258, BK259, HB, BK260, GW260, GE260, NB258_260, NB260_258, NB259_260, NB260_259⟩ := n_; clear hb hbox hg; have hnb5 := NB258_259.out; have hnc5 := NB259_258.out; have hnb6 := NB258_260.out; have hnc6 := NB260_258.out; have hcz7_0 : w4.cell? ⟨gb258, 0, none⟩ = some (.int .i64 a0_0) := (zg BK258.out 0).trans rfl; have hcz7_1 : w4.cell? ⟨gb258, 1, none⟩ = some (.int .i64 a0_1) := (zg BK258.out 1).trans rfl; have hcz7_2 : w4.cell? ⟨gb258, 2, none⟩ = some (.int .i64 a0_2) := (zg BK258.out 2).trans rfl; have hcz7_3 : w4.cell? ⟨gb258, 3, none⟩ = some (.int .i64 a0_3) := (zg BK258.out 3).trans rfl; have hcz7_4 : w4.cell? ⟨gb258, 4, none⟩ = some (.int .i64 a0_4) := (zg BK258.out 4).trans rfl; have hfz7_0 := zh BK258.out 0; have hfz7_1 := zh BK258.out 1; have hfz7_2 := zh BK258.out 2; have hfz7_3 := zh BK258.out 3; have hfz7_4 := zh BK258.out 4; have hnb8 := NB260_259.out; have hnc8 := NB259_260.out; have hcz9_0 : w4.cell? ⟨gb260, 0, none⟩ = some (.int .i64 0) := (zg BK260.out 0).trans rfl; have hcz9_1 : w4.cell? ⟨gb260, 1, none⟩ = some (.int .i64 0) := (zg BK260.out 1).trans rfl; have hcz9_2 : w4.cell? ⟨gb260, 2, none⟩ = some (.int .i64 0) := (zg BK260.out 2).trans rfl; have hcz9_3 : w4.cell? ⟨gb260, 3, none⟩ = some (.int .i64 0) := (zg BK260.out 3).trans rfl; have hcz9_4 : w4.cell? ⟨gb260, 4, none⟩ = some (.int .i64 0) := (zg BK260.out 4).trans rfl; have hfz9_0 := zh BK260.out 0; have hfz9_1 := zh BK260.out 1; have hfz9_2 := zh BK260.out 2; have hfz9_3 := zh BK260.out 3; have hfz9_4 := zh BK260.out 4; have hcz10_0 : w4.cell? ⟨gb259, 0, none⟩ = some (.int .i64 0) := (zg BK259.out 0).trans rfl; have hcz10_1 : w4.cell? ⟨gb259, 1, none⟩ = some (.int .i64 0) := (zg BK259.out 1).trans rfl; have hcz10_2 : w4.cell? ⟨gb259, 2, none⟩ = some (.int .i64 0) := (zg BK259.out 2).trans rfl; have hcz10_3 : w4.cell? ⟨gb259, 3, none⟩ = some (.int .i64 0) := (zg BK259.out 3).trans rfl; have hcz10_4 : w4.cell? ⟨gb259, 4, none⟩ = some (.int .i64 0) := (zg BK259.out 4).trans rfl; have hfz10_0 := zh BK259.out 0; have hfz10_1 := zh BK259.out 1; have hfz10_2 := zh BK259.out 2; have hfz10_3 := zh BK259.out 3; have hfz10_4 := zh BK259.out 4))
 refine bodyPost_ret (results_cell_row rfl _ _ gb259 37 #[.int .i64 a0_0, .int .i64 a0_1, .int .i64 a0_2, .int .i64 a0_3, .int .i64 a0_4] (0, 0) _ rfl (by (with_reducible repeat (first | refine zc ?_ _ | refine zd ?_ | refine zb ?_ _)); refine zw (cs := #[.int .i64 a0_0, .int .i64 a0_1, .int .i64 a0_2, .int .i64 a0_3, .int .i64 0]) ?_ 4 _ rfl; (with_reducible repeat (first | refine zc ?_ _ | refine zd ?_ | refine zb ?_ _)); refine zw (cs := #[.int .i64 a0_0, .int .i64 a0_1, .int .i64 a0_2, .int .i64 0, .int .i64 0]) ?_ 3 _ rfl; (with_reducible repeat (first | refine zc ?_ _ | refine zd ?_ | refine zb ?_ _)); refine zw (cs := #[.int .i64 a0_0, .int .i64 a0_1, .int .i64 0, .int .i64 0, .int .i64 0]) ?_ 2 _ rfl; (with_reducible repeat (first | refine zc ?_ _ | refine zd ?_ | refine zb ?_ _)); refine zw (cs := #[.int .i64 a0_0, .int .i64 0, .int .i64 0, .int .i64 0, .int .i64 0]) ?_ 1 _ rfl; (with_reducible repeat (first | refine zc ?_ _ | refine zd ?_ | refine zb ?_ _)); refine zw (cs := #[.int .i64 0, .int .i64 0, .int .i64 0, .int .i64 0, .int .i64 0]) ?_ 0 _ rfl; (with_reducible repeat (first | refine zc ?_ _ | refine zd ?_ | refine zb ?_ _)); refine zs ?_ NB259_260.out _; (with_reducible repeat (first | refine zc ?_ _ | refine zd ?_ | refine zb ?_ _)); refine zs ?_ NB259_260.out _; (with_reducible repeat (first | refine zc ?_ _ | refine zd ?_ | refine zb ?_ _)); refine zs ?_ NB259_260.out _; (with_reducible repeat (first | refine zc ?_ _ | refine zd ?_ | refine zb ?_ _)); refine zs ?_ NB259_260.out _; (with_reducible repeat (first | refine zc ?_ _ | refine zd ?_ | refine zb ?_ _)); refine zs ?_ NB259_260.out _; (with_reducible repeat (first | refine zc ?_ _ | refine zd ?_ | refine zb ?_ _)); exact BK259.out) Try.underlying37 rfl zG101) rfl ?_
 exact ⟨zH86, by repeat (first | (with_reducible first | exact HB.out | apply zj | apply ze | apply zi | refine zf ?_ GE258.out | refine zf ?_ GE259.out | refine zf ?_ GE260.out) | exact HB.out)⟩

/-! ### laws_toStopS: function 17 -/
def laws_toStopS.l0 : Nat → List (S116) → List (S37) → Int → Option ((List (S37)))
 | 0, _, _, _ => none
 | k + 1, x0, x3, x4 => if x4 < (x0.length : Int) then (if 0 ≤ x4 then ((laws_toStop.f ((rd_T116 x0 x4).f0) ((rd_T116 x0 x4).f1) ((rd_T116 x0 x4).f2) ((rd_T116 x0 x4).f3) ((rd_T116 x0 x4).f4)).bind fun bt265 => (if x4 < (x3.length : Int) then (laws_toStopS.l0 k x0 (x3.set (x4 : Int).toNat (⟨bt265.1, bt265.2.1, bt265.2.2.1, bt265.2.2.2.1, bt265.2.2.2.2⟩ : S37)) (wrap64 (x4 + 1))) else (none))) else (none)) else (some x3)
def laws_toStopS.f (k : Nat) (l0 : List (S116)) : Option ((List (S37))) := if 0 ≤ (l0.length : Int) then (if ((l0.length : Int) : Int).toNat ≤ 7036874417766 then (laws_toStopS.l0 k l0 (List.replicate ((l0.length : Int) : Int).toNat z37) 0) else (none)) else (none)
theorem laws_toStopS.mono_l : ∀ k, (∀ y0 y1 y2, LeO (laws_toStopS.l0 k y0 y1 y2) (laws_toStopS.l0 (k + 1) y0 y1 y2))
 | 0 => fun _ _ _ r h => by simp [laws_toStopS.l0] at h
 | k + 1 => by
  have ih0 := laws_toStopS.mono_l k
  ·intro y0 y1 y2
   unfold laws_toStopS.l0
   repeat' first
   | (with_reducible exact ih0 _ _ _)
   | (with_reducible exact LeO.refl _)
   | (with_reducible exact LeO.none _)
   | (with_reducible refine LeO.ite ?_ ?_)
   | (with_reducible refine LeO.bind ?_ (fun _ => ?_))
   | exact ih0 _ _ _
   | exact LeO.none _
   | refine LeO.ite ?_ ?_
   | refine LeO.bind ?_ (fun _ => ?_)
theorem laws_toStopS.mono : ∀ a0 k, LeO (laws_toStopS.f k a0) (laws_toStopS.f (k + 1) a0) := by
 intro a0 k
 have ih0 := laws_toStopS.mono_l k
 unfold laws_toStopS.f
 repeat' first
   | (with_reducible exact ih0 _ _ _)
   | (with_reducible exact LeO.refl _)
   | (with_reducible exact LeO.none _)
   | (with_reducible refine LeO.ite ?_ ?_)
   | (with_reducible refine LeO.bind ?_ (fun _ => ?_))
   | exact ih0 _ _ _
   | exact LeO.none _
   | refine LeO.ite ?_ ?_
   | refine LeO.bind ?_ (fun _ => ?_)
set_option maxHeartbeats 8000000 in
set_option maxRecDepth 100000 in
theorem laws_toStopS.calls (k : Nat) (A0 : Option Addr) (c0 : Nat) (l0 : List (S116)) (r : List (S37)) (w : World) (hr0 : Kd.C k116 w A0 l0.length l0) (hc0 : l0.length ≤ c0) (h : laws_toStopS.f k l0 = some r) :
  Calls Try.prog 17 #[.slice A0 l0.length c0] w fun e w' => ∃ v0_ : Value, e = .returned (v0_) ∧ Kd.R k37 37 w' w.heap.size (fun _ => True) v0_ r ∧ Below w.heap.size w w' := by
 have hu116 := Try.underlying116
 have hu37 := Try.underlying37
 have HR0 := za hr0
 have HC0 := za hc0
 clear hr0 hc0
 have HB := za (Below.refl w.heap.size w)
 have H : (if 0 ≤ (l0.length : Int) then (if ((l0.length : Int) : Int).toNat ≤ 7036874417766 then (laws_toStopS.l0 k l0 (List.replicate ((l0.length : Int) : Int).toNat z37) 0) else (none)) else (none)) = some r := h
 clear h
 by_cases c2 : 0 ≤ (l0.length : Int)
 rotate_left
 ·rw [if_neg c2] at H
  exact absurd H (by simp)

 rw [if_pos c2] at H
 have c2b0 := eq_true c2
 have c2b1 := decide_eq_true c2
 clear c2
 by_cases c3 : ((l0.length : Int) : Int).toNat ≤ 7036874417766
 rotate_left
 ·rw [if_neg c3] at H
  exact absurd H (by simp)
 rw [if_pos c3] at H
 have c3b0 := eq_true c3
 have c3b1 := decide_eq_true c3
 clear c3
 obtain ⟨y261, hy261⟩ : ∃ y_ : List (S37), y_ = (List.replicate ((l0.length : Int) : Int).toNat z37) := ⟨_, rfl⟩
 replace H : (laws_toStopS.l0 k l0 y261 0) = some r := by first | (rw [hy261]; with_reducible exact H) | (have H2_ := (Option.bind_some _ _).symm.trans H; rw [hy261]; with_reducible exact H2_) | (have H2_ := (Option.bind_some _ _).symm.trans H; with_reducible exact H2_) | with_reducible exact H | (rw [hy261]; exact H) | exact H
 have Ny261 := za hy261
 clear hy261
 have H' := za H
 clear H
 go_enter Try.func17, Try.ntmps17
 go_wp2_with (first | ((with_reducible refine gate_dst (N := 7) rfl ?_); refine Kd.R_make k37 _ 37 rfl (N := 7) rfl 23 _ _ rfl (l0.length : Int) rfl rfl Try.underlying23 (.agg #[(.int .i64 0), (.int .i64 0), (.int .i64 0), (.int .i64 0), (.int .i64 0)]) 40 info37 rfl zG102 (by omega) z37 (ok := fun _ => True) (okp := fun _ => True) (k37_mkM _ _ _ z37 ) (fun _ hk => hk) trivial zO (Nat.le_trans (Nat.mul_le_mul_right _ (zO : (l0.length : Int).toNat ≤ 7036874417766)) (by omega)) (Below.refl _ _) (Nat.le_refl _) ?_; intro v262 w4 ho5 hb hg_ hnew_; clear hg_ hnew_; (first | rw [← Ny261.out] at ho5 | (simp only [Int.reduceToNat] at ho5; rw [← Ny261.out] at ho5)); have n_ := zA_ (za (zag ho5 (zq zG76))) (za (zu zG76 hb)); clear HB; obtain ⟨HO263, HB⟩ := n_; clear hb ho5))
 go_loopg [4] k (fun kq v4 w' => ∃ (x3_1 : List (S37)) (x4_1 : Int), v4 = .int .i64 x4_1 ∧ Aside0 (laws_toStopS.l0 kq l0 x3_1 x4_1 = some r) ∧ Aside0 (kq ≤ k) ∧ Aside0 (Kd.R k37 37 w' w.heap.size (fun _ => True) v262 x3_1) ∧ Aside0 (Below w.heap.size w w'))
 case atStart => exact ⟨(y261), (0), zG100, H', ⟨Nat.le_refl _⟩, ⟨by (with_reducible repeat (first | apply zk | apply zl | apply zm)); exact HO263.out⟩, ⟨zH77⟩⟩
 case round =>
  clear H'
  try clear c1
  try clear c2
  try clear c2b0
  try clear c2b1
  try clear p2
  try clear c3
  try clear c3b0
  try clear c3b1
  obtain ⟨x3_1, x4_1, rfl, HA, HK1, HO_3, HB⟩ := hrel
  cases gk with
  | zero => exact absurd HA.out (by simp [laws_toStopS.l0])
  | succ k1 =>
   have H := HA.out
   clear HA
   simp only [laws_toStopS.l0] at H
   by_cases c6 : x4_1 < (l0.length : Int)
   rotate_left
   ·rw [if_neg c6] at H
    have c6b0 := decide_eq_false c6
    clear c6
    obtain rfl := Option.some.inj H
    go_wp2
    go_ret
    exact ⟨_, zH86, by (with_reducible repeat (first | apply zk | apply zl | apply zm)); exact HO_3.out, zH77⟩
   rw [if_pos c6] at H
   have c6b0 := decide_eq_true c6
   clear c6
   by_cases c7 : 0 ≤ x4_1
   rotate_left
   ·rw [if_neg c7] at H
    exact absurd H (by simp)
   rw [if_pos c7] at H
   have c7b0 := decide_eq_true c7
   clear c7
   replace H := Option.bind_eq_some_iff.mp H
   obtain ⟨⟨t265, t266, t267, t268, t269⟩, A80, H⟩ := H
   replace H : (if x4_1 < (x3_1.length : Int) then (laws_toStopS.l0 k1 l0 (x3_1.set (x4_1 : Int).toNat (⟨t265, t266, t267, t268, t269⟩ : S37)) (wrap64 (x4_1 + 1))) else (none)) = some r := H
   have A8 := za A80
   clear A80
   by_cases c9 : x4_1 < (x3_1.length : Int)
   rotate_left
   ·rw [if_neg c9] at H
    exact absurd H (by simp)
   rw [if_pos c9] at H
   have c9b0 := decide_eq_true c9
   clear c9
   obtain ⟨y270, hy270⟩ : ∃ y_ : List (S37), y_ = (x3_1.set (x4_1 : Int).toNat (⟨t265, t266, t267, t268, t269⟩ : S37)) := ⟨_, rfl⟩
   replace H : (laws_toStopS.l0 k1 l0 y270 (wrap64 (x4_1 + 1))) = some r := by first | (rw [hy270]; with_reducible exact H) | (have H2_ := (Option.bind_some _ _).symm.trans H; rw [hy270]; with_reducible exact H2_) | (have H2_ := (Option.bind_some _ _).symm.trans H; with_reducible exact H2_) | with_reducible exact H | (rw [hy270]; exact H) | exact H
   have Ny270 := za hy270
   clear hy270
   have H' := za H
   clear H
   have p264 : 0 ≤ (x4_1 : Int) := zO
   have q264 : x4_1 < (l0.length : Int) := zO
   obtain ⟨ad264, e264, hx264_0, hx264_1, hx264_2, hx264_3, hx264_4⟩ := at_T116 HR0.out x4_1 p264 q264
   cases e264
   replace hx264_0 := (HB.out.cell (zo w _ hx264_0)).trans hx264_0
   replace hx264_1 := (HB.out.cell (zo w _ hx264_1)).trans hx264_1
   replace hx264_2 := (HB.out.cell (zo w _ hx264_2)).trans hx264_2
   replace hx264_3 := (HB.out.cell (zo w _ hx264_3)).trans hx264_3
   replace hx264_4 := (HB.out.cell (zo w _ hx264_4)).trans hx264_4
   replace p264 := eq_true p264
   replace q264 := eq_true q264
   go_wp2_with (first | ((with_reducible refine gate_callee (f := 71) rfl ?_); refine goesL_ (some 20) rfl rfl Try.func71 zG101 rfl #[.agg #[.int .i64 ((rd_T116 l0 x4_1).f0), .int .i64 ((rd_T116 l0 x4_1).f1), .int .i64 ((rd_T116 l0 x4_1).f2), .int .i64 ((rd_T116 l0 x4_1).f3), .int .i64 ((rd_T116 l0 x4_1).f4)]] rfl zG68 ?_; (with_reducible refine (laws_toStop.calls ((rd_T116 l0 x4_1).f0) ((rd_T116 l0 x4_1).f1) ((rd_T116 l0 x4_1).f2) ((rd_T116 l0 x4_1).f3) ((rd_T116 l0 x4_1).f4) t265 t266 t267 t268 t269 _ A8.out).mono ?_); rintro e w11 ⟨rfl, hb⟩; refine ⟨_, rfl, ?_⟩; have n_ := zA_ (za (zt (by (with_reducible repeat (first | apply zk | apply zl | apply zm)); exact HO_3.out) hb)) (za (zu zG76 hb)); clear HO_3 HB; obtain ⟨HO_3, HB⟩ := n_; (try clear hb); (try clear hk); have p10 : 0 ≤ (x4_1 : Int) := zO; have q10 : (x4_1 : Int) < ((x3_1.length : Int) : Int) := zO; obtain ⟨go10, co10, eo10, gb10, gl10, cl10, HG10⟩ := Kd.R_form HO_3.out (by omega); (first | cases eo10 | (injection eo10 with ea_ en_ ec_; (first | subst ea_ | (injection ea_ with ea_; subst ea_)); subst ec_; clear en_)); have GB10 := za gb10; have GG10 := za HG10; clear gb10 gl10 HG10; obtain ⟨ce10, hcl10, hM10, hcc10, hfr10⟩ := zaz HO_3.out z37 (x4_1 : Int) p10 q10; obtain rfl := k37_openM hM10; have hx10_0 : w11.cell? ⟨go10, (x4_1 : Int).toNat * 5, none⟩ = some (.int .i64 ((rd_T37 x3_1 x4_1).f0)) := hcc10 0 _ rfl; have hx10_1 : w11.cell? ⟨go10, (x4_1 : Int).toNat * 5 + 1, none⟩ = some (.int .i64 ((rd_T37 x3_1 x4_1).f1)) := hcc10 1 _ rfl; have hx10_2 : w11.cell? ⟨go10, (x4_1 : Int).toNat * 5 + 2, none⟩ = some (.int .i64 ((rd_T37 x3_1 x4_1).f2)) := hcc10 2 _ rfl; have hx10_3 : w11.cell? ⟨go10, (x4_1 : Int).toNat * 5 + 3, none⟩ = some (.int .i64 ((rd_T37 x3_1 x4_1).f3)) := hcc10 3 _ rfl; have hx10_4 : w11.cell? ⟨go10, (x4_1 : Int).toNat * 5 + 4, none⟩ = some (.int .i64 ((rd_T37 x3_1 x4_1).f4)) := hcc10 4 _ rfl; have hf10_0 : w11.frozen? ⟨go10, (x4_1 : Int).toNat * 5, none⟩ = false := hfr10 0; have hf10_1 : w11.frozen? ⟨go10, (x4_1 : Int).toNat * 5 + 1, none⟩ = false := hfr10 1; have hf10_2 : w11.frozen? ⟨go10, (x4_1 : Int).toNat * 5 + 2, none⟩ = false := hfr10 2; have hf10_3 : w11.frozen? ⟨go10, (x4_1 : Int).toNat * 5 + 3, none⟩ = false := hfr10 3; have hf10_4 : w11.frozen? ⟨go10, (x4_1 : Int).toNat * 5 + 4, none⟩ = false := hfr10 4; clear hcl10 hcc10 hfr10 hM10; replace p10 := eq_true p10; replace q10 := eq_true q10; have HX12 := za (show Kd.R k37 37 w11 w.heap.size (fun _ => True) (.slice (some ⟨go10, 0, none⟩) x3_1.length co10) x3_1 from (by (with_reducible repeat (first | apply zk | apply zl | apply zm)); exact HO_3.out)); obtain ⟨ce12, hcl12, hM12, hcc12, hfr12⟩ := zaz HX12.out z37 (x4_1 : Int) zO (by have h_ : (x4_1 : Int) < ((x3_1.length : Int) : Int) := zO; first | exact h_ | (have e_ := (Kd.R_reads' HO_3.out).1; omega) | simpa using h_); obtain rfl := k37_openM hM12; have HP12 := Kd.R_seg HX12.out (x4_1 : Int) zO (by have h_ : (x4_1 : Int) < ((x3_1.length : Int) : Int) := zO; first | exact h_ | (have e_ := (Kd.R_reads' HO_3.out).1; omega) | simpa using h_) (seg := [.int .i64 t265, .int .i64 t266, .int .i64 t267, .int .i64 t268, .int .i64 t269]) (j := 0) hcl12 hcc12 (show 5 ≤ 5 from by decide) (x' := (⟨t265, t266, t267, t268, t269⟩ : S37)) (k37_mkM _ _ _ (⟨t265, t266, t267, t268, t269⟩ : S37) ) (fun _ hk => hk); have hx12_0 := hcc12 0 _ rfl; (try simp only [show (k37).sz = 5 from rfl, Nat.mul_one, Nat.add_zero] at hx12_0); have hf12_0 := hfr12 0; (try simp only [show (k37).sz = 5 from rfl, Nat.mul_one, Nat.add_zero] at hf12_0); have hx12_1 := hcc12 1 _ rfl; (try simp only [show (k37).sz = 5 from rfl, Nat.mul_one, Nat.add_zero] at hx12_1); have hf12_1 := hfr12 1; (try simp only [show (k37).sz = 5 from rfl, Nat.mul_one, Nat.add_zero] at hf12_1); have hx12_2 := hcc12 2 _ rfl; (try simp only [show (k37).sz = 5 from rfl, Nat.mul_one, Nat.add_zero] at hx12_2); have hf12_2 := hfr12 2; (try simp only [show (k37).sz = 5 from rfl, Nat.mul_one, Nat.add_zero] at hf12_2); have hx12_3 := hcc12 3 _ rfl; (try simp only [show (k37).sz = 5 from rfl, Nat.mul_one, Nat.add_zero] at hx12_3); have hf12_3 := hfr12 3; (try simp only [show (k37).sz = 5 from rfl, Nat.mul_one, Nat.add_zero] at hf12_3); have hx12_4 := hcc12 4 _ rfl; (try simp only [show (k37).sz = 5 from rfl, Nat.mul_one, Nat.add_zero] at hx12_4); have hf12_4 := hfr12 4; (try simp only [show (k37).sz = 5 from rfl, Nat.mul_one, Nat.add_zero] at hf12_4); clear hcl12 hcc12 hfr12 hM12) | ((with_reducible refine gate_store (t := 37) (p := 21) rfl ?_); refine store_event (t := 37) (p := 21) (v := ?vo_w13) (w1 := (((((w11.setCell ⟨go10, (x4_1 : Int).toNat * 5, none⟩ (.int .i64 t265)).setCell ⟨go10, (x4_1 : Int).toNat * 5 + 1, none⟩ (.int .i64 t266)).setCell ⟨go10, (x4_1 : Int).toNat * 5 + 2, none⟩ (.int .i64 t267)).setCell ⟨go10, (x4_1 : Int).toNat * 5 + 3, none⟩ (.int .i64 t268)).setCell ⟨go10, (x4_1 : Int).toNat * 5 + 4, none⟩ (.int .i64 t269))) ?hg ?ho ?hn ?hr ?_; (case ho => rfl); (case hg => rfl); (case hn => rfl); (case hr => exact zH99); intro w13 hw; have hg : w11.grownBy w13 (some go10) := (by rw [hw]; exact HP12.2); have hp_ : Kd.R k37 37 w13 w.heap.size (fun _ => True) (.slice (some ⟨go10, 0, none⟩) x3_1.length co10) y270 := (by rw [hw, Ny270.out]; exact HP12.1); clear HP12; have n_ := zA_ (za (hp_)) (za ((by rw [hw]; exact zf (zf (zf (zf (zf (HB.out) GB10.out) GB10.out) GB10.out) GB10.out) GB10.out : Below w.heap.size w w13))); clear HO_3 HB; obtain ⟨HO_3, HB⟩ := n_; clear hg hw hp_))
   go_roundg k1
   case measure => have := HK1.out; omega
   case rel => exact ⟨(y270), (wrap64 (x4_1 + 1)), zG100, H', ⟨zH102⟩, ⟨by (with_reducible repeat (first | apply zk | apply zl | apply zm)); exact HO_3.out⟩, ⟨zH77⟩⟩
/-! ### laws_eqIntS: function 72 -/
def laws_eqIntS.l0 : Nat → List Int → List Int → Int → Option (Bool)
 | 0, _, _, _ => none
 | k + 1, x0, x1, x5 => if x5 < (x0.length : Int) then (if 0 ≤ x5 then (if x5 < (x1.length : Int) then (if (rd x0 x5) = (rd x1 x5) then (laws_eqIntS.l0 k x0 x1 (wrap64 (x5 + 1))) else (some false)) else (none)) else (none)) else (some true)
def laws_eqIntS.f (k : Nat) (l0 : List Int) (l1 : List Int) : Option (Bool) := if (l0.length : Int) = (l1.length : Int) then (laws_eqIntS.l0 k l0 l1 0) else (some false)
theorem laws_eqIntS.mono_l : ∀ k, (∀ y0 y1 y2, LeO (laws_eqIntS.l0 k y0 y1 y2) (laws_eqIntS.l0 (k + 1) y0 y1 y2))
 | 0 => fun _ _ _ r h => by simp [laws_eqIntS.l0] at h
 | k + 1 => by
  have ih0 := laws_eqIntS.mono_l k
  ·intro y0 y1 y2
   unfold laws_eqIntS.l0
   repeat' first
   | (with_reducible exact ih0 _ _ _)
   | (with_reducible exact LeO.refl _)
   | (with_reducible exact LeO.none _)
   | (with_reducible refine LeO.ite ?_ ?_)
   | (with_reducible refine LeO.bind ?_ (fun _ => ?_))
   | exact ih0 _ _ _
   | exact LeO.none _
   | refine LeO.ite ?_ ?_
   | refine LeO.bind ?_ (fun _ => ?_)
theorem laws_eqIntS.mono : ∀ a0 a1 k, LeO (laws_eqIntS.f k a0 a1) (laws_eqIntS.f (k + 1) a0 a1) := by
 intro a0 a1 k
 have ih0 := laws_eqIntS.mono_l k
 unfold laws_eqIntS.f
 repeat' first
   | (with_reducible exact ih0 _ _ _)
   | (with_reducible exact LeO.refl _)
   | (with_reducible exact LeO.none _)
   | (with_reducible refine LeO.ite ?_ ?_)
   | (with_reducible refine LeO.bind ?_ (fun _ => ?_))
   | exact ih0 _ _ _
   | exact LeO.none _
   | refine LeO.ite ?_ ?_
   | refine LeO.bind ?_ (fun _ => ?_)
set_option maxHeartbeats 8000000 in
set_option maxRecDepth 100000 in
theorem laws_eqIntS.calls (k : Nat) (A0 : Option Addr) (c0 : Nat) (l0 : List Int) (A1 : Option Addr) (c1 : Nat) (l1 : List Int) (r : Bool) (w : World) (hr0 : Kd.C (Kd.int .i64) w A0 l0.length l0) (hc0 : l0.length ≤ c0) (hr1 : Kd.C (Kd.int .i64) w A1 l1.length l1) (hc1 : l1.length ≤ c1) (h : laws_eqIntS.f k l0 l1 = some r) :
  Calls Try.prog 72 #[.slice A0 l0.length c0, .slice A1 l1.length c1] w fun e w' => e = .returned (.bool r) ∧ Drawn0 w w' := by
 have HR0 := za hr0
 have HC0 := za hc0
 clear hr0 hc0
 have HR1 := za hr1
 have HC1 := za hc1
 clear hr1 hc1
 have H : (if (l0.length : Int) = (l1.length : Int) then (laws_eqIntS.l0 k l0 l1 0) else (some false)) = some r := h
 clear h
 by_cases c3 : (l0.length : Int) = (l1.length : Int)
 rotate_left
 ·rw [if_neg c3] at H
  have c3b0 : ((l0.length : Int) == (l1.length : Int)) = false := beq_eq_false_iff_ne.mpr c3
  have c3b1 : ((l0.length : Int) != (l1.length : Int)) = true := bne_iff_ne.mpr c3
  have c3b2 : (l0.length == l1.length) = false := by first | simpa using c3 | (simp at c3 ⊢; omega)
  obtain rfl := Option.some.inj H
  go_enter Try.func72, Try.ntmps72
  go_wp2
  repeat (go_quiet (fail); try go_wp2)
  go_ret
  exact zH68

 rw [if_pos c3] at H
 have c3b0 : ((l0.length : Int) == (l1.length : Int)) = true := beq_iff_eq.mpr c3
 have c3b1 : ((l0.length : Int) != (l1.length : Int)) = false := bne_eq_false_iff_eq.mpr c3
 have c3b2 : (l0.length == l1.length) = true := by first | simpa using c3 | (simp at c3 ⊢; omega)
 clear c3
 have H' := za H
 clear H
 go_enter Try.func72, Try.ntmps72
 go_wp2
 repeat (go_quiet (fail); try go_wp2)
 go_loopg [5] k (fun kq v5 w' => ∃ (x5_1 : Int), v5 = .int .i64 x5_1 ∧ Aside0 (laws_eqIntS.l0 kq l0 l1 x5_1 = some r) ∧ Aside0 (kq ≤ k) ∧ Drawn0 w w')
 case atStart => exact ⟨(0), zG100, H', ⟨Nat.le_refl _⟩, zH96⟩
 case round =>
  clear H'
  try clear c1
  try clear p2
  try clear c3
  try clear c3b0
  try clear c3b1
  try clear c3b2
  obtain ⟨x5_1, rfl, HA, HK1, ⟨m1, rfl⟩⟩ := hrel
  cases gk with
  | zero => exact absurd HA.out (by simp [laws_eqIntS.l0])
  | succ k1 =>
   have H := HA.out
   clear HA
   simp only [laws_eqIntS.l0] at H
   by_cases c4 : x5_1 < (l0.length : Int)
   rotate_left
   ·rw [if_neg c4] at H
    have c4b0 := decide_eq_false c4
    clear c4
    obtain rfl := Option.some.inj H
    go_wp2
    repeat (go_quiet (fail); try go_wp2)
    go_ret
    exact zH68
   rw [if_pos c4] at H
   have c4b0 := decide_eq_true c4
   clear c4
   by_cases c5 : 0 ≤ x5_1
   rotate_left
   ·rw [if_neg c5] at H
    exact absurd H (by simp)
   rw [if_pos c5] at H
   have c5b0 := decide_eq_true c5
   clear c5
   by_cases c6 : x5_1 < (l1.length : Int)
   rotate_left
   ·rw [if_neg c6] at H
    exact absurd H (by simp)
   rw [if_pos c6] at H
   have c6b0 := decide_eq_true c6
   clear c6
   by_cases c7 : (rd l0 x5_1) = (rd l1 x5_1)
   rotate_left
   ·rw [if_neg c7] at H
    have c7b0 : ((rd l0 x5_1) == (rd l1 x5_1)) = false := beq_eq_false_iff_ne.mpr c7
    have c7b1 : ((rd l0 x5_1) != (rd l1 x5_1)) = true := bne_iff_ne.mpr c7
    obtain rfl := Option.some.inj H
    have p271 : 0 ≤ (x5_1 : Int) := zO
    have q271 : x5_1 < (l0.length : Int) := zO
    obtain ⟨ad271, e271, hx271_0⟩ := zas HR0.out x5_1 p271 q271
    cases e271
    replace p271 := eq_true p271
    replace q271 := eq_true q271
    have p272 : 0 ≤ (x5_1 : Int) := zO
    have q272 : x5_1 < (l1.length : Int) := zO
    obtain ⟨ad272, e272, hx272_0⟩ := zas HR1.out x5_1 p272 q272
    cases e272
    replace p272 := eq_true p272
    replace q272 := eq_true q272
    go_wp2
    repeat (go_quiet (fail); try go_wp2)
    go_ret
    exact zH68
   rw [if_pos c7] at H
   have c7b0 : ((rd l0 x5_1) == (rd l1 x5_1)) = true := beq_iff_eq.mpr c7
   have c7b1 : ((rd l0 x5_1) != (rd l1 x5_1)) = false := bne_eq_false_iff_eq.mpr c7
   clear c7
   have H' := za H
   clear H
   have p271 : 0 ≤ (x5_1 : Int) := zO
   have q271 : x5_1 < (l0.length : Int) := zO
   obtain ⟨ad271, e271, hx271_0⟩ := zas HR0.out x5_1 p271 q271
   cases e271
   replace p271 := eq_true p271
   replace q271 := eq_true q271
   have p272 : 0 ≤ (x5_1 : Int) := zO
   have q272 : x5_1 < (l1.length : Int) := zO
   obtain ⟨ad272, e272, hx272_0⟩ := zas HR1.out x5_1 p272 q272
   cases e272
   replace p272 := eq_true p272
   replace q272 := eq_true q272
   go_wp2
   repeat (go_quiet (fail); try go_wp2)
   go_roundg k1
   case measure => have := HK1.out; omega
   case rel => exact ⟨(wrap64 (x5_1 + 1)), zG100, H', ⟨zH102⟩, zH96⟩
/-! ### laws_eqRoute: function 18 -/
def laws_eqRoute.f (k : Nat) (l0_0 : List Int) (l0_1 : List Int) (a0_2 : Int) (a0_3 : Int) (l1_0 : List Int) (l1_1 : List Int) (a1_2 : Int) (a1_3 : Int) : Option (Bool) := (laws_eqIntS.f k l0_0 l1_0).bind fun t275 => (if t275 = true then ((laws_eqIntS.f k l0_1 l1_1).bind fun t276 => (if t276 = true then (if a0_2 = a1_2 then (if a0_3 = a1_3 then (some true) else (some false)) else (some false)) else (some false))) else (some false))
theorem laws_eqRoute.mono : ∀ a0 a1 a2 a3 a4 a5 a6 a7 k, LeO (laws_eqRoute.f k a0 a1 a2 a3 a4 a5 a6 a7) (laws_eqRoute.f (k + 1) a0 a1 a2 a3 a4 a5 a6 a7) := by
 intro a0 a1 a2 a3 a4 a5 a6 a7 k
 unfold laws_eqRoute.f
 repeat' first
   | (with_reducible exact laws_eqIntS.mono _ _ _)
   | (with_reducible exact LeO.refl _)
   | (with_reducible exact LeO.none _)
   | (with_reducible refine LeO.ite ?_ ?_)
   | (with_reducible refine LeO.bind ?_ (fun _ => ?_))
   | exact laws_eqIntS.mono _ _ _
   | exact LeO.none _
   | refine LeO.ite ?_ ?_
   | refine LeO.bind ?_ (fun _ => ?_)
set_option maxHeartbeats 8000000 in
set_option maxRecDepth 100000 in
theorem laws_eqRoute.calls (k : Nat) (A0_0 : Option Addr) (c0_0 : Nat) (l0_0 : List Int) (A0_1 : Option Addr) (c0_1 : Nat) (l0_1 : List Int) (a0_2 : Int) (a0_3 : Int) (A1_0 : Option Addr) (c1_0 : Nat) (l1_0 : List Int) (A1_1 : Option Addr) (c1_1 : Nat) (l1_1 : List Int) (a1_2 : Int) (a1_3 : Int) (r : Bool) (w : World) (hr0_0 : Kd.C (Kd.int .i64) w A0_0 l0_0.length l0_0) (hc0_0 : l0_0.length ≤ c0_0) (hr0_1 : Kd.C (Kd.int .i64) w A0_1 l0_1.length l0_1) (hc0_1 : l0_1.length ≤ c0_1) (hr1_0 : Kd.C (Kd.int .i64) w A1_0 l1_0.length l1_0) (hc1_0 : l1_0.length ≤ c1_0) (hr1_1 : Kd.C (Kd.int .i64) w A1_1 l1_1.length l1_1) (hc1_1 : l1_1.length ≤ c1_1) (h : laws_eqRoute.f k l0_0 l0_1 a0_2 a0_3 l1_0 l1_1 a1_2 a1_3 = some r) :
  Calls Try.prog 18 #[.agg #[.slice A0_0 l0_0.length c0_0, .slice A0_1 l0_1.length c0_1, .int .i64 a0_2, .int .i64 a0_3], .agg #[.slice A1_0 l1_0.length c1_0, .slice A1_1 l1_1.length c1_1, .int .i64 a1_2, .int .i64 a1_3]] w fun e w' => e = .returned (.bool r) ∧ Below w.heap.size w w' := by
 have hu28 := Try.underlying28
 have HR0_0 := za hr0_0
 have HC0_0 := za hc0_0
 clear hr0_0 hc0_0
 have HR0_1 := za hr0_1
 have HC0_1 := za hc0_1
 clear hr0_1 hc0_1
 have HR1_0 := za hr1_0
 have HC1_0 := za hc1_0
 clear hr1_0 hc1_0
 have HR1_1 := za hr1_1
 have HC1_1 := za hc1_1
 clear hr1_1 hc1_1
 have HB := za (Below.refl w.heap.size w)
 have H : ((laws_eqIntS.f k l0_0 l1_0).bind fun t275 => (if t275 = true then ((laws_eqIntS.f k l0_1 l1_1).bind fun t276 => (if t276 = true then (if a0_2 = a1_2 then (if a0_3 = a1_3 then (some true) else (some false)) else (some false)) else (some false))) else (some false))) = some r := h
 clear h
 replace H := Option.bind_eq_some_iff.mp H
 obtain ⟨t275, A30, H⟩ := H
 replace H : (if t275 = true then ((laws_eqIntS.f k l0_1 l1_1).bind fun t276 => (if t276 = true then (if a0_2 = a1_2 then (if a0_3 = a1_3 then (some true) else (some false)) else (some false)) else (some false))) else (some false)) = some r := H
 have A3 := za A30
 clear A30
 by_cases c4 : t275 = true
 rotate_left
 ·replace c4 := Bool.eq_false_iff.mpr c4
  subst c4
  have H1 : (some false) = some r := by rw [if_neg (show ¬ (false = true) by decide)] at H; exact H
  clear H
  have H := H1
  clear H1
  obtain rfl := Option.some.inj H
  go_enter Try.func18, Try.ntmps18
  go_wp2_with (first | ((with_reducible refine gate_dst (N := 2) rfl ?_); refine box_event ?hg (N := 2) ?hd (cs := #[.slice A0_0 l0_0.length c0_0, .slice A0_1 l0_1.length c0_1, .int .i64 a0_2, .int .i64 a0_3]) (t := 28) ?hr ?_; (case hd => rfl); (case hg => rfl); (case hr => exact zH99); intro gb273 hg w29 hbox hb; have n_ := zA_ (za (zu zG76 hb)) (zA_ (za (hbox)) (zA_ (za ((by rw [hg]; exact (zq zG76) : w.heap.size ≤ gb273))) (za ((by rw [hg]; exact (zq zG76) : w.heap.size ≤ gb273))))); clear HB; obtain ⟨HB, BK273, GW273, GE273⟩ := n_; clear hb hbox hg) | ((with_reducible refine gate_dst (N := 3) rfl ?_); refine box_event ?hg (N := 3) ?hd (cs := #[.slice A1_0 l1_0.length c1_0, .slice A1_1 l1_1.length c1_1, .int .i64 a1_2, .int .i64 a1_3]) (t := 28) ?hr ?_; (case hd => rfl); (case hg => rfl); (case hr => exact zH99); intro gb274 hg w30 hbox hb; have n_ := zA_ (za (zr (g := gb273) (o := .cells #[.slice A0_0 l0_0.length c0_0, .slice A0_1 l0_1.length c0_1, .int .i64 a0_2, .int .i64 a0_3] 28 (0, 0)) zG78 hb)) (zA_ (za (zu zG73 hb)) (zA_ (za (hbox)) (zA_ (za ((by rw [hg]; exact (zq zG73) : w.heap.size ≤ gb274))) (zA_ (za ((by rw [hg]; exact (zq zG73) : w.heap.size ≤ gb274))) (zA_ (za ((by rw [hg]; exact Nat.ne_of_lt (zx (g := gb273) (o := .cells #[.slice A0_0 l0_0.length c0_0, .slice A0_1 l0_1.length c0_1, .int .i64 a0_2, .int .i64 a0_3] 28 (0, 0)) zG78) : gb273 ≠ gb274))) (za ((by rw [hg]; exact Nat.ne_of_gt (zx (g := gb273) (o := .cells #[.slice A0_0 l0_0.length c0_0, .slice A0_1 l0_1.length c0_1, .int .i64 a0_2, .int .i64 a0_3] 28 (0, 0)) zG78) : gb274 ≠ gb273)))))))); clear BK273 HB; obtain ⟨BK273, HB, BK274, GW274, GE274, NB273_274, NB274_273⟩ := n_; clear hb hbox hg; have hnb31 := NB273_274.out; have hnc31 := NB274_273.out; have hcz32_0 : w30.cell? ⟨gb273, 0, none⟩ = some (.slice A0_0 l0_0.length c0_0) := (zg BK273.out 0).trans rfl; have hcz32_1 : w30.cell? ⟨gb273, 1, none⟩ = some (.slice A0_1 l0_1.length c0_1) := (zg BK273.out 1).trans rfl; have hcz32_2 : w30.cell? ⟨gb273, 2, none⟩ = some (.int .i64 a0_2) := (zg BK273.out 2).trans rfl; have hcz32_3 : w30.cell? ⟨gb273, 3, none⟩ = some (.int .i64 a0_3) := (zg BK273.out 3).trans rfl; have hfz32_0 := zh BK273.out 0; have hfz32_1 := zh BK273.out 1; have hfz32_2 := zh BK273.out 2; have hfz32_3 := zh BK273.out 3; have hcz33_0 : w30.cell? ⟨gb274, 0, none⟩ = some (.slice A1_0 l1_0.length c1_0) := (zg BK274.out 0).trans rfl; have hcz33_1 : w30.cell? ⟨gb274, 1, none⟩ = some (.slice A1_1 l1_1.length c1_1) := (zg BK274.out 1).trans rfl; have hcz33_2 : w30.cell? ⟨gb274, 2, none⟩ = some (.int .i64 a1_2) := (zg BK274.out 2).trans rfl; have hcz33_3 : w30.cell? ⟨gb274, 3, none⟩ = some (.int .i64 a1_3) := (zg BK274.out 3).trans rfl; have hfz33_0 := zh BK274.out 0; have hfz33_1 := zh BK274.out 1; have hfz33_2 := zh BK274.out 2; have hfz33_3 := zh BK274.out 3) | ((with_reducible refine gate_callee (f := 72) rfl ?_); refine goesL_ (some 9) rfl rfl Try.func72 zG101 rfl #[.slice A0_0 l0_0.length c0_0, .slice A1_0 l1_0.length c1_0] rfl zG68 ?_; (with_reducible refine (laws_eqIntS.calls k _ _ l0_0 _ _ l1_0 false _ ?side1 ?side2 ?side3 ?side4 A3.out).mono ?_); (case side1 => exact zH58); (case side2 => exact HC0_0.out); (case side3 => exact zH57); (case side4 => exact HC1_0.out); rintro e w' ⟨rfl, ⟨nd, rfl⟩⟩; refine ⟨_, rfl, ?_⟩))
  go_ret
  exact zH18

 subst c4
 have H1 : ((laws_eqIntS.f k l0_1 l1_1).bind fun t276 => (if t276 = true then (if a0_2 = a1_2 then (if a0_3 = a1_3 then (some true) else (some false)) else (some false)) else (some false))) = some r := by rw [if_pos rfl] at H; exact H
 clear H
 have H := H1
 clear H1
 replace H := Option.bind_eq_some_iff.mp H
 obtain ⟨t276, A50, H⟩ := H
 replace H : (if t276 = true then (if a0_2 = a1_2 then (if a0_3 = a1_3 then (some true) else (some false)) else (some false)) else (some false)) = some r := H
 have A5 := za A50
 clear A50
 by_cases c6 : t276 = true
 rotate_left
 ·replace c6 := Bool.eq_false_iff.mpr c6
  subst c6
  have H1 : (some false) = some r := by rw [if_neg (show ¬ (false = true) by decide)] at H; exact H
  clear H
  have H := H1
  clear H1
  obtain rfl := Option.some.inj H
  go_enter Try.func18, Try.ntmps18
  go_wp2_with (first | ((with_reducible refine gate_dst (N := 2) rfl ?_); refine box_event ?hg (N := 2) ?hd (cs := #[.slice A0_0 l0_0.length c0_0, .slice A0_1 l0_1.length c0_1, .int .i64 a0_2, .int .i64 a0_3]) (t := 28) ?hr ?_; (case hd => rfl); (case hg => rfl); (case hr => exact zH99); intro gb273 hg w24 hbox hb; have n_ := zA_ (za (zu zG76 hb)) (zA_ (za (hbox)) (zA_ (za ((by rw [hg]; exact (zq zG76) : w.heap.size ≤ gb273))) (za ((by rw [hg]; exact (zq zG76) : w.heap.size ≤ gb273))))); clear HB; obtain ⟨HB, BK273, GW273, GE273⟩ := n_; clear hb hbox hg) | ((with_reducible refine gate_dst (N := 3) rfl ?_); refine box_event ?hg (N := 3) ?hd (cs := #[.slice A1_0 l1_0.length c1_0, .slice A1_1 l1_1.length c1_1, .int .i64 a1_2, .int .i64 a1_3]) (t := 28) ?hr ?_; (case hd => rfl); (case hg => rfl); (case hr => exact zH99); intro gb274 hg w25 hbox hb; have n_ := zA_ (za (zr (g := gb273) (o := .cells #[.slice A0_0 l0_0.length c0_0, .slice A0_1 l0_1.length c0_1, .int .i64 a0_2, .int .i64 a0_3] 28 (0, 0)) zG78 hb)) (zA_ (za (zu zG73 hb)) (zA_ (za (hbox)) (zA_ (za ((by rw [hg]; exact (zq zG73) : w.heap.size ≤ gb274))) (zA_ (za ((by rw [hg]; exact (zq zG73) : w.heap.size ≤ gb274))) (zA_ (za ((by rw [hg]; exact Nat.ne_of_lt (zx (g := gb273) (o := .cells #[.slice A0_0 l0_0.length c0_0, .slice A0_1 l0_1.length c0_1, .int .i64 a0_2, .int .i64 a0_3] 28 (0, 0)) zG78) : gb273 ≠ gb274))) (za ((by rw [hg]; exact Nat.ne_of_gt (zx (g := gb273) (o := .cells #[.slice A0_0 l0_0.length c0_0, .slice A0_1 l0_1.length c0_1, .int .i64 a0_2, .int .i64 a0_3] 28 (0, 0)) zG78) : gb274 ≠ gb273)))))))); clear BK273 HB; obtain ⟨BK273, HB, BK274, GW274, GE274, NB273_274, NB274_273⟩ := n_; clear hb hbox hg; have hnb26 := NB273_274.out; have hnc26 := NB274_273.out; have hcz27_0 : w25.cell? ⟨gb273, 0, none⟩ = some (.slice A0_0 l0_0.length c0_0) := (zg BK273.out 0).trans rfl; have hcz27_1 : w25.cell? ⟨gb273, 1, none⟩ = some (.slice A0_1 l0_1.length c0_1) := (zg BK273.out 1).trans rfl; have hcz27_2 : w25.cell? ⟨gb273, 2, none⟩ = some (.int .i64 a0_2) := (zg BK273.out 2).trans rfl; have hcz27_3 : w25.cell? ⟨gb273, 3, none⟩ = some (.int .i64 a0_3) := (zg BK273.out 3).trans rfl; have hfz27_0 := zh BK273.out 0; have hfz27_1 := zh BK273.out 1; have hfz27_2 := zh BK273.out 2; have hfz27_3 := zh BK273.out 3; have hcz28_0 : w25.cell? ⟨gb274, 0, none⟩ = some (.slice A1_0 l1_0.length c1_0) := (zg BK274.out 0).trans rfl; have hcz28_1 : w25.cell? ⟨gb274, 1, none⟩ = some (.slice A1_1 l1_1.length c1_1) := (zg BK274.out 1).trans rfl; have hcz28_2 : w25.cell? ⟨gb274, 2, none⟩ = some (.int .i64 a1_2) := (zg BK274.out 2).trans rfl; have hcz28_3 : w25.cell? ⟨gb274, 3, none⟩ = some (.int .i64 a1_3) := (zg BK274.out 3).trans rfl; have hfz28_0 := zh BK274.out 0; have hfz28_1 := zh BK274.out 1; have hfz28_2 := zh BK274.out 2; have hfz28_3 := zh BK274.out 3) | ((with_reducible refine gate_callee (f := 72) rfl ?_); refine goesL_ (some 9) rfl rfl Try.func72 zG101 rfl #[.slice A0_0 l0_0.length c0_0, .slice A1_0 l1_0.length c1_0] rfl zG68 ?_; (with_reducible refine (laws_eqIntS.calls k _ _ l0_0 _ _ l1_0 true _ ?side1 ?side2 ?side3 ?side4 A3.out).mono ?_); (case side1 => exact zH58); (case side2 => exact HC0_0.out); (case side3 => exact zH57); (case side4 => exact HC1_0.out); rintro e w' ⟨rfl, ⟨nd, rfl⟩⟩; refine ⟨_, rfl, ?_⟩) | ((with_reducible refine gate_callee (f := 72) rfl ?_); refine goesL_ (some 15) rfl rfl Try.func72 zG101 rfl #[.slice A0_1 l0_1.length c0_1, .slice A1_1 l1_1.length c1_1] rfl zG68 ?_; (with_reducible refine (laws_eqIntS.calls k _ _ l0_1 _ _ l1_1 false _ ?side1 ?side2 ?side3 ?side4 A5.out).mono ?_); (case side1 => exact zH13); (case side2 => exact HC0_1.out); (case side3 => exact zH14); (case side4 => exact HC1_1.out); rintro e w' ⟨rfl, ⟨nd, rfl⟩⟩; refine ⟨_, rfl, ?_⟩))
  go_ret
  exact zH18
 subst c6
 have H1 : (if a0_2 = a1_2 then (if a0_3 = a1_3 then (some true) else (some false)) else (some false)) = some r := by rw [if_pos rfl] at H; exact H
 clear H
 have H := H1
 clear H1
 by_cases c7 : a0_2 = a1_2
 rotate_left
 ·rw [if_neg c7] at H
  have c7b0 : (a0_2 == a1_2) = false := beq_eq_false_iff_ne.mpr c7
  have c7b1 : (a0_2 != a1_2) = true := bne_iff_ne.mpr c7
  obtain rfl := Option.some.inj H
  go_enter Try.func18, Try.ntmps18
  go_wp2_with (first | ((with_reducible refine gate_dst (N := 2) rfl ?_); refine box_event ?hg (N := 2) ?hd (cs := #[.slice A0_0 l0_0.length c0_0, .slice A0_1 l0_1.length c0_1, .int .i64 a0_2, .int .i64 a0_3]) (t := 28) ?hr ?_; (case hd => rfl); (case hg => rfl); (case hr => exact zH99); intro gb273 hg w19 hbox hb; have n_ := zA_ (za (zu zG76 hb)) (zA_ (za (hbox)) (zA_ (za ((by rw [hg]; exact (zq zG76) : w.heap.size ≤ gb273))) (za ((by rw [hg]; exact (zq zG76) : w.heap.size ≤ gb273))))); clear HB; obtain ⟨HB, BK273, GW273, GE273⟩ := n_; clear hb hbox hg) | ((with_reducible refine gate_dst (N := 3) rfl ?_); refine box_event ?hg (N := 3) ?hd (cs := #[.slice A1_0 l1_0.length c1_0, .slice A1_1 l1_1.length c1_1, .int .i64 a1_2, .int .i64 a1_3]) (t := 28) ?hr ?_; (case hd => rfl); (case hg => rfl); (case hr => exact zH99); intro gb274 hg w20 hbox hb; have n_ := zA_ (za (zr (g := gb273) (o := .cells #[.slice A0_0 l0_0.length c0_0, .slice A0_1 l0_1.length c0_1, .int .i64 a0_2, .int .i64 a0_3] 28 (0, 0)) zG78 hb)) (zA_ (za (zu zG73 hb)) (zA_ (za (hbox)) (zA_ (za ((by rw [hg]; exact (zq zG73) : w.heap.size ≤ gb274))) (zA_ (za ((by rw [hg]; exact (zq zG73) : w.heap.size ≤ gb274))) (zA_ (za ((by rw [hg]; exact Nat.ne_of_lt (zx (g := gb273) (o := .cells #[.slice A0_0 l0_0.length c0_0, .slice A0_1 l0_1.length c0_1, .int .i64 a0_2, .int .i64 a0_3] 28 (0, 0)) zG78) : gb273 ≠ gb274))) (za ((by rw [hg]; exact Nat.ne_of_gt (zx (g := gb273) (o := .cells #[.slice A0_0 l0_0.length c0_0, .slice A0_1 l0_1.length c0_1, .int .i64 a0_2, .int .i64 a0_3] 28 (0, 0)) zG78) : gb274 ≠ gb273)))))))); clear BK273 HB; obtain ⟨BK273, HB, BK274, GW274, GE274, NB273_274, NB274_273⟩ := n_; clear hb hbox hg; have hnb21 := NB273_274.out; have hnc21 := NB274_273.out; have hcz22_0 : w20.cell? ⟨gb273, 0, none⟩ = some (.slice A0_0 l0_0.length c0_0) := (zg BK273.out 0).trans rfl; have hcz22_1 : w20.cell? ⟨gb273, 1, none⟩ = some (.slice A0_1 l0_1.length c0_1) := (zg BK273.out 1).trans rfl; have hcz22_2 : w20.cell? ⟨gb273, 2, none⟩ = some (.int .i64 a0_2) := (zg BK273.out 2).trans rfl; have hcz22_3 : w20.cell? ⟨gb273, 3, none⟩ = some (.int .i64 a0_3) := (zg BK273.out 3).trans rfl; have hfz22_0 := zh BK273.out 0; have hfz22_1 := zh BK273.out 1; have hfz22_2 := zh BK273.out 2; have hfz22_3 := zh BK273.out 3; have hcz23_0 : w20.cell? ⟨gb274, 0, none⟩ = some (.slice A1_0 l1_0.length c1_0) := (zg BK274.out 0).trans rfl; have hcz23_1 : w20.cell? ⟨gb274, 1, none⟩ = some (.slice A1_1 l1_1.length c1_1) := (zg BK274.out 1).trans rfl; have hcz23_2 : w20.cell? ⟨gb274, 2, none⟩ = some (.int .i64 a1_2) := (zg BK274.out 2).trans rfl; have hcz23_3 : w20.cell? ⟨gb274, 3, none⟩ = some (.int .i64 a1_3) := (zg BK274.out 3).trans rfl; have hfz23_0 := zh BK274.out 0; have hfz23_1 := zh BK274.out 1; have hfz23_2 := zh BK274.out 2; have hfz23_3 := zh BK274.out 3) | ((with_reducible refine gate_callee (f := 72) rfl ?_); refine goesL_ (some 9) rfl rfl Try.func72 zG101 rfl #[.slice A0_0 l0_0.length c0_0, .slice A1_0 l1_0.length c1_0] rfl zG68 ?_; (with_reducible refine (laws_eqIntS.calls k _ _ l0_0 _ _ l1_0 true _ ?side1 ?side2 ?side3 ?side4 A3.out).mono ?_); (case side1 => exact zH58); (case side2 => exact HC0_0.out); (case side3 => exact zH57); (case side4 => exact HC1_0.out); rintro e w' ⟨rfl, ⟨nd, rfl⟩⟩; refine ⟨_, rfl, ?_⟩) | ((with_reducible refine gate_callee (f := 72) rfl ?_); refine goesL_ (some 15) rfl rfl Try.func72 zG101 rfl #[.slice A0_1 l0_1.length c0_1, .slice A1_1 l1_1.length c1_1] rfl zG68 ?_; (with_reducible refine (laws_eqIntS.calls k _ _ l0_1 _ _ l1_1 true _ ?side1 ?side2 ?side3 ?side4 A5.out).mono ?_); (case side1 => exact zH13); (case side2 => exact HC0_1.out); (case side3 => exact zH14); (case side4 => exact HC1_1.out); rintro e w' ⟨rfl, ⟨nd, rfl⟩⟩; refine ⟨_, rfl, ?_⟩))
  go_ret
  exact zH18
 rw [if_pos c7] at H
 have c7b0 : (a0_2 == a1_2) = true := beq_iff_eq.mpr c7
 have c7b1 : (a0_2 != a1_2) = false := bne_eq_false_iff_eq.mpr c7
 clear c7
 by_cases c8 : a0_3 = a1_3
 rotate_left
 ·rw [if_neg c8] at H
  have c8b0 : (a0_3 == a1_3) = false := beq_eq_false_iff_ne.mpr c8
  have c8b1 : (a0_3 != a1_3) = true := bne_iff_ne.mpr c8
  obtain rfl := Option.some.inj H
  go_enter Try.func18, Try.ntmps18
  go_wp2_with (first | ((with_reducible refine gate_dst (N := 2) rfl ?_); refine box_event ?hg (N := 2) ?hd (cs := #[.slice A0_0 l0_0.length c0_0, .slice A0_1 l0_1.length c0_1, .int .i64 a0_2, .int .i64 a0_3]) (t := 28) ?hr ?_; (case hd => rfl); (case hg => rfl); (case hr => exact zH99); intro gb273 hg w14 hbox hb; have n_ := zA_ (za (zu zG76 hb)) (zA_ (za (hbox)) (zA_ (za ((by rw [hg]; exact (zq zG76) : w.heap.size ≤ gb273))) (za ((by rw [hg]; exact (zq zG76) : w.heap.size ≤ gb273))))); clear HB; obtain ⟨HB, BK273, GW273, GE273⟩ := n_; clear hb hbox hg) | ((with_reducible refine gate_dst (N := 3) rfl ?_); refine box_event ?hg (N := 3) ?hd (cs := #[.slice A1_0 l1_0.length c1_0, .slice A1_1 l1_1.length c1_1, .int .i64 a1_2, .int .i64 a1_3]) (t := 28) ?hr ?_; (case hd => rfl); (case hg => rfl); (case hr => exact zH99); intro gb274 hg w15 hbox hb; have n_ := zA_ (za (zr (g := gb273) (o := .cells #[.slice A0_0 l0_0.length c0_0, .slice A0_1 l0_1.length c0_1, .int .i64 a0_2, .int .i64 a0_3] 28 (0, 0)) zG78 hb)) (zA_ (za (zu zG73 hb)) (zA_ (za (hbox)) (zA_ (za ((by rw [hg]; exact (zq zG73) : w.heap.size ≤ gb274))) (zA_ (za ((by rw [hg]; exact (zq zG73) : w.heap.size ≤ gb274))) (zA_ (za ((by rw [hg]; exact Nat.ne_of_lt (zx (g := gb273) (o := .cells #[.slice A0_0 l0_0.length c0_0, .slice A0_1 l0_1.length c0_1, .int .i64 a0_2, .int .i64 a0_3] 28 (0, 0)) zG78) : gb273 ≠ gb274))) (za ((by rw [hg]; exact Nat.ne_of_gt (zx (g := gb273) (o := .cells #[.slice A0_0 l0_0.length c0_0, .slice A0_1 l0_1.length c0_1, .int .i64 a0_2, .int .i64 a0_3] 28 (0, 0)) zG78) : gb274 ≠ gb273)))))))); clear BK273 HB; obtain ⟨BK273, HB, BK274, GW274, GE274, NB273_274, NB274_273⟩ := n_; clear hb hbox hg; have hnb16 := NB273_274.out; have hnc16 := NB274_273.out; have hcz17_0 : w15.cell? ⟨gb273, 0, none⟩ = some (.slice A0_0 l0_0.length c0_0) := (zg BK273.out 0).trans rfl; have hcz17_1 : w15.cell? ⟨gb273, 1, none⟩ = some (.slice A0_1 l0_1.length c0_1) := (zg BK273.out 1).trans rfl; have hcz17_2 : w15.cell? ⟨gb273, 2, none⟩ = some (.int .i64 a0_2) := (zg BK273.out 2).trans rfl; have hcz17_3 : w15.cell? ⟨gb273, 3, none⟩ = some (.int .i64 a0_3) := (zg BK273.out 3).trans rfl; have hfz17_0 := zh BK273.out 0; have hfz17_1 := zh BK273.out 1; have hfz17_2 := zh BK273.out 2; have hfz17_3 := zh BK273.out 3; have hcz18_0 : w15.cell? ⟨gb274, 0, none⟩ = some (.slice A1_0 l1_0.length c1_0) := (zg BK274.out 0).trans rfl; have hcz18_1 : w15.cell? ⟨gb274, 1, none⟩ = some (.slice A1_1 l1_1.length c1_1) := (zg BK274.out 1).trans rfl; have hcz18_2 : w15.cell? ⟨gb274, 2, none⟩ = some (.int .i64 a1_2) := (zg BK274.out 2).trans rfl; have hcz18_3 : w15.cell? ⟨gb274, 3, none⟩ = some (.int .i64 a1_3) := (zg BK274.out 3).trans rfl; have hfz18_0 := zh BK274.out 0; have hfz18_1 := zh BK274.out 1; have hfz18_2 := zh BK274.out 2; have hfz18_3 := zh BK274.out 3) | ((with_reducible refine gate_callee (f := 72) rfl ?_); refine goesL_ (some 9) rfl rfl Try.func72 zG101 rfl #[.slice A0_0 l0_0.length c0_0, .slice A1_0 l1_0.length c1_0] rfl zG68 ?_; (with_reducible refine (laws_eqIntS.calls k _ _ l0_0 _ _ l1_0 true _ ?side1 ?side2 ?side3 ?side4 A3.out).mono ?_); (case side1 => exact zH58); (case side2 => exact HC0_0.out); (case side3 => exact zH57); (case side4 => exact HC1_0.out); rintro e w' ⟨rfl, ⟨nd, rfl⟩⟩; refine ⟨_, rfl, ?_⟩) | ((with_reducible refine gate_callee (f := 72) rfl ?_); refine goesL_ (some 15) rfl rfl Try.func72 zG101 rfl #[.slice A0_1 l0_1.length c0_1, .slice A1_1 l1_1.length c1_1] rfl zG68 ?_; (with_reducible refine (laws_eqIntS.calls k _ _ l0_1 _ _ l1_1 true _ ?side1 ?side2 ?side3 ?side4 A5.out).mono ?_); (case side1 => exact zH13); (case side2 => exact HC0_1.out); (case side3 => exact zH14); (case side4 => exact HC1_1.out); rintro e w' ⟨rfl, ⟨nd, rfl⟩⟩; refine ⟨_, rfl, ?_⟩))
  go_ret
  exact zH18
 rw [if_pos c8] at H
 have c8b0 : (a0_3 == a1_3) = true := beq_iff_eq.mpr c8
 have c8b1 : (a0_3 != a1_3) = false := bne_eq_false_iff_eq.mpr c8
 clear c8
 obtain rfl := Option.some.inj H
 go_enter Try.func18, Try.ntmps18
 go_wp2_with (first | ((with_reducible refine gate_dst (N := 2) rfl ?_); refine box_event ?hg (N := 2) ?hd (cs := #[.slice A0_0 l0_0.length c0_0, .slice A0_1 l0_1.length c0_1, .int .i64 a0_2, .int .i64 a0_3]) (t := 28) ?hr ?_; (case hd => rfl); (case hg => rfl); (case hr => exact zH99); intro gb273 hg w9 hbox hb; have n_ := zA_ (za (zu zG76 hb)) (zA_ (za (hbox)) (zA_ (za ((by rw [hg]; exact (zq zG76) : w.heap.size ≤ gb273))) (za ((by rw [hg]; exact (zq zG76) : w.heap.size ≤ gb273))))); clear HB; obtain ⟨HB, BK273, GW273, GE273⟩ := n_; clear hb hbox hg) | ((with_reducible refine gate_dst (N := 3) rfl ?_); refine box_event ?hg (N := 3) ?hd (cs := #[.slice A1_0 l1_0.length c1_0, .slice A1_1 l1_1.length c1_1, .int .i64 a1_2, .int .i64 a1_3]) (t := 28) ?hr ?_; (case hd => rfl); (case hg => rfl); (case hr => exact zH99); intro gb274 hg w10 hbox hb; have n_ := zA_ (za (zr (g := gb273) (o := .cells #[.slice A0_0 l0_0.length c0_0, .slice A0_1 l0_1.length c0_1, .int .i64 a0_2, .int .i64 a0_3] 28 (0, 0)) zG78 hb)) (zA_ (za (zu zG73 hb)) (zA_ (za (hbox)) (zA_ (za ((by rw [hg]; exact (zq zG73) : w.heap.size ≤ gb274))) (zA_ (za ((by rw [hg]; exact (zq zG73) : w.heap.size ≤ gb274))) (zA_ (za ((by rw [hg]; exact Nat.ne_of_lt (zx (g := gb273) (o := .cells #[.slice A0_0 l0_0.length c0_0, .slice A0_1 l0_1.length c0_1, .int .i64 a0_2, .int .i64 a0_3] 28 (0, 0)) zG78) : gb273 ≠ gb274))) (za ((by rw [hg]; exact Nat.ne_of_gt (zx (g := gb273) (o := .cells #[.slice A0_0 l0_0.length c0_0, .slice A0_1 l0_1.length c0_1, .int .i64 a0_2, .int .i64 a0_3] 28 (0, 0)) zG78) : gb274 ≠ gb273)))))))); clear BK273 HB; obtain ⟨BK273, HB, BK274, GW274, GE274, NB273_274, NB274_273⟩ := n_; clear hb hbox hg; have hnb11 := NB273_274.out; have hnc11 := NB274_273.out; have hcz12_0 : w10.cell? ⟨gb273, 0, none⟩ = some (.slice A0_0 l0_0.length c0_0) := (zg BK273.out 0).trans rfl; have hcz12_1 : w10.cell? ⟨gb273, 1, none⟩ = some (.slice A0_1 l0_1.length c0_1) := (zg BK273.out 1).trans rfl; have hcz12_2 : w10.cell? ⟨gb273, 2, none⟩ = some (.int .i64 a0_2) := (zg BK273.out 2).trans rfl; have hcz12_3 : w10.cell? ⟨gb273, 3, none⟩ = some (.int .i64 a0_3) := (zg BK273.out 3).trans rfl; have hfz12_0 := zh BK273.out 0; have hfz12_1 := zh BK273.out 1; have hfz12_2 := zh BK273.out 2; have hfz12_3 := zh BK273.out 3; have hcz13_0 : w10.cell? ⟨gb274, 0, none⟩ = some (.slice A1_0 l1_0.length c1_0) := (zg BK274.out 0).trans rfl; have hcz13_1 : w10.cell? ⟨gb274, 1, none⟩ = some (.slice A1_1 l1_1.length c1_1) := (zg BK274.out 1).trans rfl; have hcz13_2 : w10.cell? ⟨gb274, 2, none⟩ = some (.int .i64 a1_2) := (zg BK274.out 2).trans rfl; have hcz13_3 : w10.cell? ⟨gb274, 3, none⟩ = some (.int .i64 a1_3) := (zg BK274.out 3).trans rfl; have hfz13_0 := zh BK274.out 0; have hfz13_1 := zh BK274.out 1; have hfz13_2 := zh BK274.out 2; have hfz13_3 := zh BK274.out 3) | ((with_reducible refine gate_callee (f := 72) rfl ?_); refine goesL_ (some 9) rfl rfl Try.func72 zG101 rfl #[.slice A0_0 l0_0.length c0_0, .slice A1_0 l1_0.length c1_0] rfl zG68 ?_; (with_reducible refine (laws_eqIntS.calls k _ _ l0_0 _ _ l1_0 true _ ?side1 ?side2 ?side3 ?side4 A3.out).mono ?_); (case side1 => exact zH58); (case side2 => exact HC0_0.out); (case side3 => exact zH57); (case side4 => exact HC1_0.out); rintro e w' ⟨rfl, ⟨nd, rfl⟩⟩; refine ⟨_, rfl, ?_⟩) | ((with_reducible refine gate_callee (f := 72) rfl ?_); refine goesL_ (some 15) rfl rfl Try.func72 zG101 rfl #[.slice A0_1 l0_1.length c0_1, .slice A1_1 l1_1.length c1_1] rfl zG68 ?_; (with_reducible refine (laws_eqIntS.calls k _ _ l0_1 _ _ l1_1 true _ ?side1 ?side2 ?side3 ?side4 A5.out).mono ?_); (case side1 => exact zH13); (case side2 => exact HC0_1.out); (case side3 => exact zH14); (case side4 => exact HC1_1.out); rintro e w' ⟨rfl, ⟨nd, rfl⟩⟩; refine ⟨_, rfl, ?_⟩))
 go_ret
 exact zH18
/-! ### laws_eqStop: function 73 -/
def laws_eqStop.f (a0_0 : Int) (a0_1 : Int) (a0_2 : Int) (a0_3 : Int) (a0_4 : Int) (a1_0 : Int) (a1_1 : Int) (a1_2 : Int) (a1_3 : Int) (a1_4 : Int) : Option (Bool) := if a0_0 = a1_0 then (if a0_1 = a1_1 then (if a0_2 = a1_2 then (if a0_3 = a1_3 then (if a0_4 = a1_4 then (some true) else (some false)) else (some false)) else (some false)) else (some false)) else (some false)
set_option maxHeartbeats 8000000 in
set_option maxRecDepth 100000 in
theorem laws_eqStop.calls (a0_0 : Int) (a0_1 : Int) (a0_2 : Int) (a0_3 : Int) (a0_4 : Int) (a1_0 : Int) (a1_1 : Int) (a1_2 : Int) (a1_3 : Int) (a1_4 : Int) (r : Bool) (w : World) (h : laws_eqStop.f a0_0 a0_1 a0_2 a0_3 a0_4 a1_0 a1_1 a1_2 a1_3 a1_4 = some r) :
  Calls Try.prog 73 #[.agg #[.int .i64 a0_0, .int .i64 a0_1, .int .i64 a0_2, .int .i64 a0_3, .int .i64 a0_4], .agg #[.int .i64 a1_0, .int .i64 a1_1, .int .i64 a1_2, .int .i64 a1_3, .int .i64 a1_4]] w fun e w' => e = .returned (.bool r) ∧ Below w.heap.size w w' := by
 have hu37 := Try.underlying37
 have HB := za (Below.refl w.heap.size w)
 have H : (if a0_0 = a1_0 then (if a0_1 = a1_1 then (if a0_2 = a1_2 then (if a0_3 = a1_3 then (if a0_4 = a1_4 then (some true) else (some false)) else (some false)) else (some false)) else (some false)) else (some false)) = some r := h
 clear h
 by_cases c3 : a0_0 = a1_0
 rotate_left
 ·rw [if_neg c3] at H
  have c3b0 : (a0_0 == a1_0) = false := beq_eq_false_iff_ne.mpr c3
  have c3b1 : (a0_0 != a1_0) = true := bne_iff_ne.mpr c3
  obtain rfl := Option.some.inj H
  go_enter Try.func73, Try.ntmps73
  go_wp2_with (first | ((with_reducible refine gate_dst (N := 2) rfl ?_); refine box_event ?hg (N := 2) ?hd (cs := #[.int .i64 a0_0, .int .i64 a0_1, .int .i64 a0_2, .int .i64 a0_3, .int .i64 a0_4]) (t := 37) ?hr ?_; (case hd => rfl); (case hg => rfl); (case hr => exact zH99); intro gb277 hg w33 hbox hb; have n_ := zA_ (za (zu zG76 hb)) (zA_ (za (hbox)) (zA_ (za ((by rw [hg]; exact (zq zG76) : w.heap.size ≤ gb277))) (za ((by rw [hg]; exact (zq zG76) : w.heap.size ≤ gb277))))); clear HB; obtain ⟨HB, BK277, GW277, GE277⟩ := n_; clear hb hbox hg) | ((with_reducible refine gate_dst (N := 3) rfl ?_); refine box_event ?hg (N := 3) ?hd (cs := #[.int .i64 a1_0, .int .i64 a1_1, .int .i64 a1_2, .int .i64 a1_3, .int .i64 a1_4]) (t := 37) ?hr ?_; (case hd => rfl); (case hg => rfl); (case hr => exact zH99); intro gb278 hg w34 hbox hb; have n_ := zA_ (za (zr (g := gb277) (o := .cells #[.int .i64 a0_0, .int .i64 a0_1, .int .i64 a0_2, .int .i64 a0_3, .int .i64 a0_4] 37 (0, 0)) zG79 hb)) (zA_ (za (zu zG74 hb)) (zA_ (za (hbox)) (zA_ (za ((by rw [hg]; exact (zq zG74) : w.heap.size ≤ gb278))) (zA_ (za ((by rw [hg]; exact (zq zG74) : w.heap.size ≤ gb278))) (zA_ (za ((by rw [hg]; exact Nat.ne_of_lt (zx (g := gb277) (o := .cells #[.int .i64 a0_0, .int .i64 a0_1, .int .i64 a0_2, .int .i64 a0_3, .int .i64 a0_4] 37 (0, 0)) zG79) : gb277 ≠ gb278))) (za ((by rw [hg]; exact Nat.ne_of_gt (zx (g := gb277) (o := .cells #[.int .i64 a0_0, .int .i64 a0_1, .int .i64 a0_2, .int .i64 a0_3, .int .i64 a0_4] 37 (0, 0)) zG79) : gb278 ≠ gb277)))))))); clear BK277 HB; obtain ⟨BK277, HB, BK278, GW278, GE278, NB277_278, NB278_277⟩ := n_; clear hb hbox hg; have hnb35 := NB277_278.out; have hnc35 := NB278_277.out; have hcz36_0 : w34.cell? ⟨gb277, 0, none⟩ = some (.int .i64 a0_0) := (zg BK277.out 0).trans rfl; have hcz36_1 : w34.cell? ⟨gb277, 1, none⟩ = some (.int .i64 a0_1) := (zg BK277.out 1).trans rfl; have hcz36_2 : w34.cell? ⟨gb277, 2, none⟩ = some (.int .i64 a0_2) := (zg BK277.out 2).trans rfl; have hcz36_3 : w34.cell? ⟨gb277, 3, none⟩ = some (.int .i64 a0_3) := (zg BK277.out 3).trans rfl; have hcz36_4 : w34.cell? ⟨gb277, 4, none⟩ = some (.int .i64 a0_4) := (zg BK277.out 4).trans rfl; have hfz36_0 := zh BK277.out 0; have hfz36_1 := zh BK277.out 1; have hfz36_2 := zh BK277.out 2; have hfz36_3 := zh BK277.out 3; have hfz36_4 := zh BK277.out 4; have hcz37_0 : w34.cell? ⟨gb278, 0, none⟩ = some (.int .i64 a1_0) := (zg BK278.out 0).trans rfl; have hcz37_1 : w34.cell? ⟨gb278, 1, none⟩ = some (.int .i64 a1_1) := (zg BK278.out 1).trans rfl; have hcz37_2 : w34.cell? ⟨gb278, 2, none⟩ = some (.int .i64 a1_2) := (zg BK278.out 2).trans rfl; have hcz37_3 : w34.cell? ⟨gb278, 3, none⟩ = some (.int .i64 a1_3) := (zg BK278.out 3).trans rfl; have hcz37_4 : w34.cell? ⟨gb278, 4, none⟩ = some (.int .i64 a1_4) := (zg BK278.out 4).trans rfl; have hfz37_0 := zh BK278.out 0; have hfz37_1 := zh BK278.out 1; have hfz37_2 := zh BK278.out 2; have hfz37_3 := zh BK278.out 3; have hfz37_4 := zh BK278.out 4))
  go_ret
  exact zH20

 rw [if_pos c3] at H
 have c3b0 : (a0_0 == a1_0) = true := beq_iff_eq.mpr c3
 have c3b1 : (a0_0 != a1_0) = false := bne_eq_false_iff_eq.mpr c3
 clear c3
 by_cases c4 : a0_1 = a1_1
 rotate_left
 ·rw [if_neg c4] at H
  have c4b0 : (a0_1 == a1_1) = false := beq_eq_false_iff_ne.mpr c4
  have c4b1 : (a0_1 != a1_1) = true := bne_iff_ne.mpr c4
  obtain rfl := Option.some.inj H
  go_enter Try.func73, Try.ntmps73
  go_wp2_with (first | ((with_reducible refine gate_dst (N := 2) rfl ?_); refine box_event ?hg (N := 2) ?hd (cs := #[.int .i64 a0_0, .int .i64 a0_1, .int .i64 a0_2, .int .i64 a0_3, .int .i64 a0_4]) (t := 37) ?hr ?_; (case hd => rfl); (case hg => rfl); (case hr => exact zH99); intro gb277 hg w28 hbox hb; have n_ := zA_ (za (zu zG76 hb)) (zA_ (za (hbox)) (zA_ (za ((by rw [hg]; exact (zq zG76) : w.heap.size ≤ gb277))) (za ((by rw [hg]; exact (zq zG76) : w.heap.size ≤ gb277))))); clear HB; obtain ⟨HB, BK277, GW277, GE277⟩ := n_; clear hb hbox hg) | ((with_reducible refine gate_dst (N := 3) rfl ?_); refine box_event ?hg (N := 3) ?hd (cs := #[.int .i64 a1_0, .int .i64 a1_1, .int .i64 a1_2, .int .i64 a1_3, .int .i64 a1_4]) (t := 37) ?hr ?_; (case hd => rfl); (case hg => rfl); (case hr => exact zH99); intro gb278 hg w29 hbox hb; have n_ := zA_ (za (zr (g := gb277) (o := .cells #[.int .i64 a0_0, .int .i64 a0_1, .int .i64 a0_2, .int .i64 a0_3, .int .i64 a0_4] 37 (0, 0)) zG79 hb)) (zA_ (za (zu zG74 hb)) (zA_ (za (hbox)) (zA_ (za ((by rw [hg]; exact (zq zG74) : w.heap.size ≤ gb278))) (zA_ (za ((by rw [hg]; exact (zq zG74) : w.heap.size ≤ gb278))) (zA_ (za ((by rw [hg]; exact Nat.ne_of_lt (zx (g := gb277) (o := .cells #[.int .i64 a0_0, .int .i64 a0_1, .int .i64 a0_2, .int .i64 a0_3, .int .i64 a0_4] 37 (0, 0)) zG79) : gb277 ≠ gb278))) (za ((by rw [hg]; exact Nat.ne_of_gt (zx (g := gb277) (o := .cells #[.int .i64 a0_0, .int .i64 a0_1, .int .i64 a0_2, .int .i64 a0_3, .int .i64 a0_4] 37 (0, 0)) zG79) : gb278 ≠ gb277)))))))); clear BK277 HB; obtain ⟨BK277, HB, BK278, GW278, GE278, NB277_278, NB278_277⟩ := n_; clear hb hbox hg; have hnb30 := NB277_278.out; have hnc30 := NB278_277.out; have hcz31_0 : w29.cell? ⟨gb277, 0, none⟩ = some (.int .i64 a0_0) := (zg BK277.out 0).trans rfl; have hcz31_1 : w29.cell? ⟨gb277, 1, none⟩ = some (.int .i64 a0_1) := (zg BK277.out 1).trans rfl; have hcz31_2 : w29.cell? ⟨gb277, 2, none⟩ = some (.int .i64 a0_2) := (zg BK277.out 2).trans rfl; have hcz31_3 : w29.cell? ⟨gb277, 3, none⟩ = some (.int .i64 a0_3) := (zg BK277.out 3).trans rfl; have hcz31_4 : w29.cell? ⟨gb277, 4, none⟩ = some (.int .i64 a0_4) := (zg BK277.out 4).trans rfl; have hfz31_0 := zh BK277.out 0; have hfz31_1 := zh BK277.out 1; have hfz31_2 := zh BK277.out 2; have hfz31_3 := zh BK277.out 3; have hfz31_4 := zh BK277.out 4; have hcz32_0 : w29.cell? ⟨gb278, 0, none⟩ = some (.int .i64 a1_0) := (zg BK278.out 0).trans rfl; have hcz32_1 : w29.cell? ⟨gb278, 1, none⟩ = some (.int .i64 a1_1) := (zg BK278.out 1).trans rfl; have hcz32_2 : w29.cell? ⟨gb278, 2, none⟩ = some (.int .i64 a1_2) := (zg BK278.out 2).trans rfl; have hcz32_3 : w29.cell? ⟨gb278, 3, none⟩ = some (.int .i64 a1_3) := (zg BK278.out 3).trans rfl; have hcz32_4 : w29.cell? ⟨gb278, 4, none⟩ = some (.int .i64 a1_4) := (zg BK278.out 4).trans rfl; have hfz32_0 := zh BK278.out 0; have hfz32_1 := zh BK278.out 1; have hfz32_2 := zh BK278.out 2; have hfz32_3 := zh BK278.out 3; have hfz32_4 := zh BK278.out 4))
  go_ret
  exact zH20
 rw [if_pos c4] at H
 have c4b0 : (a0_1 == a1_1) = true := beq_iff_eq.mpr c4
 have c4b1 : (a0_1 != a1_1) = false := bne_eq_false_iff_eq.mpr c4
 clear c4
 by_cases c5 : a0_2 = a1_2
 rotate_left
 ·rw [if_neg c5] at H
  have c5b0 : (a0_2 == a1_2) = false := beq_eq_false_iff_ne.mpr c5
  have c5b1 : (a0_2 != a1_2) = true := bne_iff_ne.mpr c5
  obtain rfl := Option.some.inj H
  go_enter Try.func73, Try.ntmps73
  go_wp2_with (first | ((with_reducible refine gate_dst (N := 2) rfl ?_); refine box_event ?hg (N := 2) ?hd (cs := #[.int .i64 a0_0, .int .i64 a0_1, .int .i64 a0_2, .int .i64 a0_3, .int .i64 a0_4]) (t := 37) ?hr ?_; (case hd => rfl); (case hg => rfl); (case hr => exact zH99); intro gb277 hg w23 hbox hb; have n_ := zA_ (za (zu zG76 hb)) (zA_ (za (hbox)) (zA_ (za ((by rw [hg]; exact (zq zG76) : w.heap.size ≤ gb277))) (za ((by rw [hg]; exact (zq zG76) : w.heap.size ≤ gb277))))); clear HB; obtain ⟨HB, BK277, GW277, GE277⟩ := n_; clear hb hbox hg) | ((with_reducible refine gate_dst (N := 3) rfl ?_); refine box_event ?hg (N := 3) ?hd (cs := #[.int .i64 a1_0, .int .i64 a1_1, .int .i64 a1_2, .int .i64 a1_3, .int .i64 a1_4]) (t := 37) ?hr ?_; (case hd => rfl); (case hg => rfl); (case hr => exact zH99); intro gb278 hg w24 hbox hb; have n_ := zA_ (za (zr (g := gb277) (o := .cells #[.int .i64 a0_0, .int .i64 a0_1, .int .i64 a0_2, .int .i64 a0_3, .int .i64 a0_4] 37 (0, 0)) zG79 hb)) (zA_ (za (zu zG74 hb)) (zA_ (za (hbox)) (zA_ (za ((by rw [hg]; exact (zq zG74) : w.heap.size ≤ gb278))) (zA_ (za ((by rw [hg]; exact (zq zG74) : w.heap.size ≤ gb278))) (zA_ (za ((by rw [hg]; exact Nat.ne_of_lt (zx (g := gb277) (o := .cells #[.int .i64 a0_0, .int .i64 a0_1, .int .i64 a0_2, .int .i64 a0_3, .int .i64 a0_4] 37 (0, 0)) zG79) : gb277 ≠ gb278))) (za ((by rw [hg]; exact Nat.ne_of_gt (zx (g := gb277) (o := .cells #[.int .i64 a0_0, .int .i64 a0_1, .int .i64 a0_2, .int .i64 a0_3, .int .i64 a0_4] 37 (0, 0)) zG79) : gb278 ≠ gb277)))))))); clear BK277 HB; obtain ⟨BK277, HB, BK278, GW278, GE278, NB277_278, NB278_277⟩ := n_; clear hb hbox hg; have hnb25 := NB277_278.out; have hnc25 := NB278_277.out; have hcz26_0 : w24.cell? ⟨gb277, 0, none⟩ = some (.int .i64 a0_0) := (zg BK277.out 0).trans rfl; have hcz26_1 : w24.cell? ⟨gb277, 1, none⟩ = some (.int .i64 a0_1) := (zg BK277.out 1).trans rfl; have hcz26_2 : w24.cell? ⟨gb277, 2, none⟩ = some (.int .i64 a0_2) := (zg BK277.out 2).trans rfl; have hcz26_3 : w24.cell? ⟨gb277, 3, none⟩ = some (.int .i64 a0_3) := (zg BK277.out 3).trans rfl; have hcz26_4 : w24.cell? ⟨gb277, 4, none⟩ = some (.int .i64 a0_4) := (zg BK277.out 4).trans rfl; have hfz26_0 := zh BK277.out 0; have hfz26_1 := zh BK277.out 1; have hfz26_2 := zh BK277.out 2; have hfz26_3 := zh BK277.out 3; have hfz26_4 := zh BK277.out 4; have hcz27_0 : w24.cell? ⟨gb278, 0, none⟩ = some (.int .i64 a1_0) := (zg BK278.out 0).trans rfl; have hcz27_1 : w24.cell? ⟨gb278, 1, none⟩ = some (.int .i64 a1_1) := (zg BK278.out 1).trans rfl; have hcz27_2 : w24.cell? ⟨gb278, 2, none⟩ = some (.int .i64 a1_2) := (zg BK278.out 2).trans rfl; have hcz27_3 : w24.cell? ⟨gb278, 3, none⟩ = some (.int .i64 a1_3) := (zg BK278.out 3).trans rfl; have hcz27_4 : w24.cell? ⟨gb278, 4, none⟩ = some (.int .i64 a1_4) := (zg BK278.out 4).trans rfl; have hfz27_0 := zh BK278.out 0; have hfz27_1 := zh BK278.out 1; have hfz27_2 := zh BK278.out 2; have hfz27_3 := zh BK278.out 3; have hfz27_4 := zh BK278.out 4))
  go_ret
  exact zH20
 rw [if_pos c5] at H
 have c5b0 : (a0_2 == a1_2) = true := beq_iff_eq.mpr c5
 have c5b1 : (a0_2 != a1_2) = false := bne_eq_false_iff_eq.mpr c5
 clear c5
 by_cases c6 : a0_3 = a1_3
 rotate_left
 ·rw [if_neg c6] at H
  have c6b0 : (a0_3 == a1_3) = false := beq_eq_false_iff_ne.mpr c6
  have c6b1 : (a0_3 != a1_3) = true := bne_iff_ne.mpr c6
  obtain rfl := Option.some.inj H
  go_enter Try.func73, Try.ntmps73
  go_wp2_with (first | ((with_reducible refine gate_dst (N := 2) rfl ?_); refine box_event ?hg (N := 2) ?hd (cs := #[.int .i64 a0_0, .int .i64 a0_1, .int .i64 a0_2, .int .i64 a0_3, .int .i64 a0_4]) (t := 37) ?hr ?_; (case hd => rfl); (case hg => rfl); (case hr => exact zH99); intro gb277 hg w18 hbox hb; have n_ := zA_ (za (zu zG76 hb)) (zA_ (za (hbox)) (zA_ (za ((by rw [hg]; exact (zq zG76) : w.heap.size ≤ gb277))) (za ((by rw [hg]; exact (zq zG76) : w.heap.size ≤ gb277))))); clear HB; obtain ⟨HB, BK277, GW277, GE277⟩ := n_; clear hb hbox hg) | ((with_reducible refine gate_dst (N := 3) rfl ?_); refine box_event ?hg (N := 3) ?hd (cs := #[.int .i64 a1_0, .int .i64 a1_1, .int .i64 a1_2, .int .i64 a1_3, .int .i64 a1_4]) (t := 37) ?hr ?_; (case hd => rfl); (case hg => rfl); (case hr => exact zH99); intro gb278 hg w19 hbox hb; have n_ := zA_ (za (zr (g := gb277) (o := .cells #[.int .i64 a0_0, .int .i64 a0_1, .int .i64 a0_2, .int .i64 a0_3, .int .i64 a0_4] 37 (0, 0)) zG79 hb)) (zA_ (za (zu zG74 hb)) (zA_ (za (hbox)) (zA_ (za ((by rw [hg]; exact (zq zG74) : w.heap.size ≤ gb278))) (zA_ (za ((by rw [hg]; exact (zq zG74) : w.heap.size ≤ gb278))) (zA_ (za ((by rw [hg]; exact Nat.ne_of_lt (zx (g := gb277) (o := .cells #[.int .i64 a0_0, .int .i64 a0_1, .int .i64 a0_2, .int .i64 a0_3, .int .i64 a0_4] 37 (0, 0)) zG79) : gb277 ≠ gb278))) (za ((by rw [hg]; exact Nat.ne_of_gt (zx (g := gb277) (o := .cells #[.int .i64 a0_0, .int .i64 a0_1, .int .i64 a0_2, .int .i64 a0_3, .int .i64 a0_4] 37 (0, 0)) zG79) : gb278 ≠ gb277)))))))); clear BK277 HB; obtain ⟨BK277, HB, BK278, GW278, GE278, NB277_278, NB278_277⟩ := n_; clear hb hbox hg; have hnb20 := NB277_278.out; have hnc20 := NB278_277.out; have hcz21_0 : w19.cell? ⟨gb277, 0, none⟩ = some (.int .i64 a0_0) := (zg BK277.out 0).trans rfl; have hcz21_1 : w19.cell? ⟨gb277, 1, none⟩ = some (.int .i64 a0_1) := (zg BK277.out 1).trans rfl; have hcz21_2 : w19.cell? ⟨gb277, 2, none⟩ = some (.int .i64 a0_2) := (zg BK277.out 2).trans rfl; have hcz21_3 : w19.cell? ⟨gb277, 3, none⟩ = some (.int .i64 a0_3) := (zg BK277.out 3).trans rfl; have hcz21_4 : w19.cell? ⟨gb277, 4, none⟩ = some (.int .i64 a0_4) := (zg BK277.out 4).trans rfl; have hfz21_0 := zh BK277.out 0; have hfz21_1 := zh BK277.out 1; have hfz21_2 := zh BK277.out 2; have hfz21_3 := zh BK277.out 3; have hfz21_4 := zh BK277.out 4; have hcz22_0 : w19.cell? ⟨gb278, 0, none⟩ = some (.int .i64 a1_0) := (zg BK278.out 0).trans rfl; have hcz22_1 : w19.cell? ⟨gb278, 1, none⟩ = some (.int .i64 a1_1) := (zg BK278.out 1).trans rfl; have hcz22_2 : w19.cell? ⟨gb278, 2, none⟩ = some (.int .i64 a1_2) := (zg BK278.out 2).trans rfl; have hcz22_3 : w19.cell? ⟨gb278, 3, none⟩ = some (.int .i64 a1_3) := (zg BK278.out 3).trans rfl; have hcz22_4 : w19.cell? ⟨gb278, 4, none⟩ = some (.int .i64 a1_4) := (zg BK278.out 4).trans rfl; have hfz22_0 := zh BK278.out 0; have hfz22_1 := zh BK278.out 1; have hfz22_2 := zh BK278.out 2; have hfz22_3 := zh BK278.out 3; have hfz22_4 := zh BK278.out 4))
  go_ret
  exact zH20
 rw [if_pos c6] at H
 have c6b0 : (a0_3 == a1_3) = true := beq_iff_eq.mpr c6
 have c6b1 : (a0_3 != a1_3) = false := bne_eq_false_iff_eq.mpr c6
 clear c6
 by_cases c7 : a0_4 = a1_4
 rotate_left
 ·rw [if_neg c7] at H
  have c7b0 : (a0_4 == a1_4) = false := beq_eq_false_iff_ne.mpr c7
  have c7b1 : (a0_4 != a1_4) = true := bne_iff_ne.mpr c7
  obtain rfl := Option.some.inj H
  go_enter Try.func73, Try.ntmps73
  go_wp2_with (first | ((with_reducible refine gate_dst (N := 2) rfl ?_); refine box_event ?hg (N := 2) ?hd (cs := #[.int .i64 a0_0, .int .i64 a0_1, .int .i64 a0_2, .int .i64 a0_3, .int .i64 a0_4]) (t := 37) ?hr ?_; (case hd => rfl); (case hg => rfl); (case hr => exact zH99); intro gb277 hg w13 hbox hb; have n_ := zA_ (za (zu zG76 hb)) (zA_ (za (hbox)) (zA_ (za ((by rw [hg]; exact (zq zG76) : w.heap.size ≤ gb277))) (za ((by rw [hg]; exact (zq zG76) : w.heap.size ≤ gb277))))); clear HB; obtain ⟨HB, BK277, GW277, GE277⟩ := n_; clear hb hbox hg) | ((with_reducible refine gate_dst (N := 3) rfl ?_); refine box_event ?hg (N := 3) ?hd (cs := #[.int .i64 a1_0, .int .i64 a1_1, .int .i64 a1_2, .int .i64 a1_3, .int .i64 a1_4]) (t := 37) ?hr ?_; (case hd => rfl); (case hg => rfl); (case hr => exact zH99); intro gb278 hg w14 hbox hb; have n_ := zA_ (za (zr (g := gb277) (o := .cells #[.int .i64 a0_0, .int .i64 a0_1, .int .i64 a0_2, .int .i64 a0_3, .int .i64 a0_4] 37 (0, 0)) zG79 hb)) (zA_ (za (zu zG74 hb)) (zA_ (za (hbox)) (zA_ (za ((by rw [hg]; exact (zq zG74) : w.heap.size ≤ gb278))) (zA_ (za ((by rw [hg]; exact (zq zG74) : w.heap.size ≤ gb278))) (zA_ (za ((by rw [hg]; exact Nat.ne_of_lt (zx (g := gb277) (o := .cells #[.int .i64 a0_0, .int .i64 a0_1, .int .i64 a0_2, .int .i64 a0_3, .int .i64 a0_4] 37 (0, 0)) zG79) : gb277 ≠ gb278))) (za ((by rw [hg]; exact Nat.ne_of_gt (zx (g := gb277) (o := .cells #[.int .i64 a0_0, .int .i64 a0_1, .int .i64 a0_2, .int .i64 a0_3, .int .i64 a0_4] 37 (0, 0)) zG79) : gb278 ≠ gb277)))))))); clear BK277 HB; obtain ⟨BK277, HB, BK278, GW278, GE278, NB277_278, NB278_277⟩ := n_; clear hb hbox hg; have hnb15 := NB277_278.out; have hnc15 := NB278_277.out; have hcz16_0 : w14.cell? ⟨gb277, 0, none⟩ = some (.int .i64 a0_0) := (zg BK277.out 0).trans rfl; have hcz16_1 : w14.cell? ⟨gb277, 1, none⟩ = some (.int .i64 a0_1) := (zg BK277.out 1).trans rfl; have hcz16_2 : w14.cell? ⟨gb277, 2, none⟩ = some (.int .i64 a0_2) := (zg BK277.out 2).trans rfl; have hcz16_3 : w14.cell? ⟨gb277, 3, none⟩ = some (.int .i64 a0_3) := (zg BK277.out 3).trans rfl; have hcz16_4 : w14.cell? ⟨gb277, 4, none⟩ = some (.int .i64 a0_4) := (zg BK277.out 4).trans rfl; have hfz16_0 := zh BK277.out 0; have hfz16_1 := zh BK277.out 1; have hfz16_2 := zh BK277.out 2; have hfz16_3 := zh BK277.out 3; have hfz16_4 := zh BK277.out 4; have hcz17_0 : w14.cell? ⟨gb278, 0, none⟩ = some (.int .i64 a1_0) := (zg BK278.out 0).trans rfl; have hcz17_1 : w14.cell? ⟨gb278, 1, none⟩ = some (.int .i64 a1_1) := (zg BK278.out 1).trans rfl; have hcz17_2 : w14.cell? ⟨gb278, 2, none⟩ = some (.int .i64 a1_2) := (zg BK278.out 2).trans rfl; have hcz17_3 : w14.cell? ⟨gb278, 3, none⟩ = some (.int .i64 a1_3) := (zg BK278.out 3).trans rfl; have hcz17_4 : w14.cell? ⟨gb278, 4, none⟩ = some (.int .i64 a1_4) := (zg BK278.out 4).trans rfl; have hfz17_0 := zh BK278.out 0; have hfz17_1 := zh BK278.out 1; have hfz17_2 := zh BK278.out 2; have hfz17_3 := zh BK278.out 3; have hfz17_4 := zh BK278.out 4))
  go_ret
  exact zH20
 rw [if_pos c7] at H
 have c7b0 : (a0_4 == a1_4) = true := beq_iff_eq.mpr c7
 have c7b1 : (a0_4 != a1_4) = false := bne_eq_false_iff_eq.mpr c7
 clear c7
 obtain rfl := Option.some.inj H
 go_enter Try.func73, Try.ntmps73
 go_wp2_with (first | ((with_reducible refine gate_dst (N := 2) rfl ?_); refine box_event ?hg (N := 2) ?hd (cs := #[.int .i64 a0_0, .int .i64 a0_1, .int .i64 a0_2, .int .i64 a0_3, .int .i64 a0_4]) (t := 37) ?hr ?_; (case hd => rfl); (case hg => rfl); (case hr => exact zH99); intro gb277 hg w8 hbox hb; have n_ := zA_ (za (zu zG76 hb)) (zA_ (za (hbox)) (zA_ (za ((by rw [hg]; exact (zq zG76) : w.heap.size ≤ gb277))) (za ((by rw [hg]; exact (zq zG76) : w.heap.size ≤ gb277))))); clear HB; obtain ⟨HB, BK277, GW277, GE277⟩ := n_; clear hb hbox hg) | ((with_reducible refine gate_dst (N := 3) rfl ?_); refine box_event ?hg (N := 3) ?hd (cs := #[.int .i64 a1_0, .int .i64 a1_1, .int .i64 a1_2, .int .i64 a1_3, .int .i64 a1_4]) (t := 37) ?hr ?_; (case hd => rfl); (case hg => rfl); (case hr => exact zH99); intro gb278 hg w9 hbox hb; have n_ := zA_ (za (zr (g := gb277) (o := .cells #[.int .i64 a0_0, .int .i64 a0_1, .int .i64 a0_2, .int .i64 a0_3, .int .i64 a0_4] 37 (0, 0)) zG79 hb)) (zA_ (za (zu zG74 hb)) (zA_ (za (hbox)) (zA_ (za ((by rw [hg]; exact (zq zG74) : w.heap.size ≤ gb278))) (zA_ (za ((by rw [hg]; exact (zq zG74) : w.heap.size ≤ gb278))) (zA_ (za ((by rw [hg]; exact Nat.ne_of_lt (zx (g := gb277) (o := .cells #[.int .i64 a0_0, .int .i64 a0_1, .int .i64 a0_2, .int .i64 a0_3, .int .i64 a0_4] 37 (0, 0)) zG79) : gb277 ≠ gb278))) (za ((by rw [hg]; exact Nat.ne_of_gt (zx (g := gb277) (o := .cells #[.int .i64 a0_0, .int .i64 a0_1, .int .i64 a0_2, .int .i64 a0_3, .int .i64 a0_4] 37 (0, 0)) zG79) : gb278 ≠ gb277)))))))); clear BK277 HB; obtain ⟨BK277, HB, BK278, GW278, GE278, NB277_278, NB278_277⟩ := n_; clear hb hbox hg; have hnb10 := NB277_278.out; have hnc10 := NB278_277.out; have hcz11_0 : w9.cell? ⟨gb277, 0, none⟩ = some (.int .i64 a0_0) := (zg BK277.out 0).trans rfl; have hcz11_1 : w9.cell? ⟨gb277, 1, none⟩ = some (.int .i64 a0_1) := (zg BK277.out 1).trans rfl; have hcz11_2 : w9.cell? ⟨gb277, 2, none⟩ = some (.int .i64 a0_2) := (zg BK277.out 2).trans rfl; have hcz11_3 : w9.cell? ⟨gb277, 3, none⟩ = some (.int .i64 a0_3) := (zg BK277.out 3).trans rfl; have hcz11_4 : w9.cell? ⟨gb277, 4, none⟩ = some (.int .i64 a0_4) := (zg BK277.out 4).trans rfl; have hfz11_0 := zh BK277.out 0; have hfz11_1 := zh BK277.out 1; have hfz11_2 := zh BK277.out 2; have hfz11_3 := zh BK277.out 3; have hfz11_4 := zh BK277.out 4; have hcz12_0 : w9.cell? ⟨gb278, 0, none⟩ = some (.int .i64 a1_0) := (zg BK278.out 0).trans rfl; have hcz12_1 : w9.cell? ⟨gb278, 1, none⟩ = some (.int .i64 a1_1) := (zg BK278.out 1).trans rfl; have hcz12_2 : w9.cell? ⟨gb278, 2, none⟩ = some (.int .i64 a1_2) := (zg BK278.out 2).trans rfl; have hcz12_3 : w9.cell? ⟨gb278, 3, none⟩ = some (.int .i64 a1_3) := (zg BK278.out 3).trans rfl; have hcz12_4 : w9.cell? ⟨gb278, 4, none⟩ = some (.int .i64 a1_4) := (zg BK278.out 4).trans rfl; have hfz12_0 := zh BK278.out 0; have hfz12_1 := zh BK278.out 1; have hfz12_2 := zh BK278.out 2; have hfz12_3 := zh BK278.out 3; have hfz12_4 := zh BK278.out 4))
 go_ret
 exact zH20
end Go.Proofs.Ytojncbpeeboooaa.T
