-- squeezed
-- made by pp.py (wip/tools) out of the translation; Lean checks it
import Derived.Test.YtojncbpeeboooaaQ0
import Derived.Test.YtojncbpeeboooaaQ2
import Derived.Test.YtojncbpeeboooaaQ5
import Derived.Test.YtojncbpeeboooaaQ6
namespace Go.Proofs.Ytojncbpeeboooaa.Q
open Go.RowKit Go.Proofs.YtojncbpeeboooaaW.PrintWords Go.Proofs.YtojncbpeeboooaaW.PrintLast Go.Proofs.YtojncbpeeboooaaW.PrintMore
attribute [local go_sem] max2_int min2_int max_two min_two max_three min_three max_four min_four   -- for this text's walks alone
set_option linter.unusedVariables false
set_option linter.unusedSimpArgs false


/-! ### spec_BestRoute: function 13 -/
def spec_BestRoute.f (k : Nat) (l0 : List (S37)) (a1 : Int) : Option (List Int × List Int × Int × Int × Int) := (spec_l20Begin.f k l0 a1).bind fun t332 => (if t332 = 0 then ((spec_l20Search_try.f k l0 a1 ([] : List Int) ([] : List Int) 0 0 false (([] : List Int))).bind fun bt337 => (if bt337.2.2.2.2 = true then (some (bt337.1, bt337.2.1, bt337.2.2.1, bt337.2.2.2.1, 0)) else (some (([] : List Int), ([] : List Int), 0, 0, 8)))) else (some (([] : List Int), ([] : List Int), 0, 0, t332)))
theorem spec_BestRoute.mono : ∀ a0 a1 k, LeO (spec_BestRoute.f k a0 a1) (spec_BestRoute.f (k + 1) a0 a1) := by
 intro a0 a1 k
 unfold spec_BestRoute.f
 repeat' first
   | (with_reducible exact spec_l20Begin.mono _ _ _)
   | (with_reducible exact spec_l20Search_try.mono _ _ _ _ _ _ _ _ _)
   | (with_reducible exact LeO.refl _)
   | (with_reducible exact LeO.none _)
   | (with_reducible refine LeO.ite ?_ ?_)
   | (with_reducible refine LeO.bind ?_ (fun _ => ?_))
   | exact spec_l20Begin.mono _ _ _
   | exact spec_l20Search_try.mono _ _ _ _ _ _ _ _ _
   | exact LeO.none _
   | refine LeO.ite ?_ ?_
   | refine LeO.bind ?_ (fun _ => ?_)
set_option maxHeartbeats 64000000 in
set_option maxRecDepth 100000 in
theorem spec_BestRoute.calls (k : Nat) (A0 : Option Addr) (c0 : Nat) (l0 : List (S37)) (a1 : Int) (r1 : List Int) (r2 : List Int) (r3 : Int) (r4 : Int) (r5 : Int) (w : World) (hr0 : Kd.C k37 w A0 l0.length l0) (hc0 : l0.length ≤ c0) (h : spec_BestRoute.f k l0 a1 = some (r1, r2, r3, r4, r5)) :
  Calls Try.prog 13 #[.slice A0 l0.length c0, .int .i64 a1] w fun e w' => ∃ v0_ v1_ : Value, e = .returned (.tuple #[.agg #[v0_, v1_, .int .i64 r3, .int .i64 r4], .int .i64 r5]) ∧ Kd.R (Kd.int .i64) 3 w' w.heap.size (fun k_ => some k_ ≠ (v1_ : Value).ownBlock) v0_ r1 ∧ Kd.R (Kd.int .i64) 3 w' w.heap.size (fun k_ => some k_ ≠ (v0_ : Value).ownBlock) v1_ r2 ∧ Below w.heap.size w w' := by
 have hu28 := Try.underlying28
 have hu113 := Try.underlying113
 obtain ⟨HR0, HC0, HB⟩ := zD3 hr0 hc0 (Below.refl w.heap.size w)
 clear hr0 hc0
 have H : ((spec_l20Begin.f k l0 a1).bind fun t332 => (if t332 = 0 then ((spec_l20Search_try.f k l0 a1 ([] : List Int) ([] : List Int) 0 0 false (([] : List Int))).bind fun bt337 => (if bt337.2.2.2.2 = true then (some (bt337.1, bt337.2.1, bt337.2.2.1, bt337.2.2.2.1, 0)) else (some (([] : List Int), ([] : List Int), 0, 0, 8)))) else (some (([] : List Int), ([] : List Int), 0, 0, t332)))) = some (r1, r2, r3, r4, r5) := h
 clear h
 replace H := Option.bind_eq_some_iff.mp H
 obtain ⟨t332, A30, H⟩ := H
 replace H : (if t332 = 0 then ((spec_l20Search_try.f k l0 a1 ([] : List Int) ([] : List Int) 0 0 false (([] : List Int))).bind fun bt337 => (if bt337.2.2.2.2 = true then (some (bt337.1, bt337.2.1, bt337.2.2.1, bt337.2.2.2.1, 0)) else (some (([] : List Int), ([] : List Int), 0, 0, 8)))) else (some (([] : List Int), ([] : List Int), 0, 0, t332))) = some (r1, r2, r3, r4, r5) := H
 have A3 := za A30
 clear A30
 by_cases c4 : t332 = 0
 rotate_left
 ·rw [if_neg c4] at H
  have c4b0 : (t332 == 0) = false := beq_eq_false_iff_ne.mpr c4
  have c4b1 : (t332 != 0) = true := bne_iff_ne.mpr c4
  simp only [Option.some.injEq, Prod.mk.injEq] at H
  obtain ⟨rfl, rfl, rfl, rfl, rfl⟩ := H
  go_enter Try.func13, Try.ntmps13
  go_wp2_with (first | ((with_reducible refine gate_dst (N := 4) rfl ?_); refine box_event ?hg (N := 4) ?hd (cs := #[.slice none 0 0, .slice none 0 0, .int .i64 0, .int .i64 0]) (t := 28) ?hr ?_; (case hd => rfl); (case hg => rfl); (case hr => exact zH103); intro gb331 hg w29 hbox hb; have n_ := zA_ (za (zv zG95 hb)) (zA_ (za (hbox)) (zA_ (zN1 w.heap.size hg (zt zG95)) (zN1 w.heap.size hg (zt zG95)))); clear HB; obtain ⟨HB, BK331, GW331, GE331⟩ := n_; clear hb hbox hg) | ((with_reducible refine gate_callee (f := 68) rfl ?_); refine goesL_ (some 10) rfl rfl Try.func68 zG125 rfl #[.slice A0 l0.length c0, .int .i64 a1] rfl zG87 ?_; (with_reducible refine (spec_l20Begin.calls k _ _ l0 a1 t332 _ ?side1 ?side2 A3.out).mono ?_); (case side1 => exact zH58); (case side2 => exact zH110); rintro e w30 ⟨rfl, hb⟩; refine ⟨_, rfl, ?_⟩; have n_ := zA_ (za (zs (g := gb331) (o := .cells #[.slice none 0 0, .slice none 0 0, .int .i64 0, .int .i64 0] 28 (0, 0)) zG102 hb)) (za (zv zK180 hb)); clear BK331 HB; obtain ⟨BK331, HB⟩ := n_; (try clear hb); obtain ⟨hcz31_0, hcz31_1, hcz31_2, hcz31_3, hfz31_0, hfz31_1, hfz31_2, hfz31_3⟩ := zB4 BK331.out))
  refine bodyPost_ret (results_ct rfl _ _ gb331 28 #[.slice none 0 0, .slice none 0 0, .int .i64 0, .int .i64 0] (0, 0) _ rfl zK120 Try.underlying28 rfl zG125) rfl ?_
  exact ⟨_, _, zH92, zH73, zH73, by repeat (first | (with_reducible first | exact HB.out | apply zm | apply zj | apply zk | refine zi ?_ GE331.out) | exact HB.out)⟩

 rw [if_pos c4] at H
 have c4b0 : (t332 == 0) = true := beq_iff_eq.mpr c4
 have c4b1 : (t332 != 0) = false := bne_eq_false_iff_eq.mpr c4
 clear c4
 obtain ⟨y334, hy334⟩ : ∃ y_ : List Int, y_ = (([] : List Int)) := ⟨_, rfl⟩
 replace H : ((spec_l20Search_try.f k l0 a1 ([] : List Int) ([] : List Int) 0 0 false y334).bind fun bt337 => (if bt337.2.2.2.2 = true then (some (bt337.1, bt337.2.1, bt337.2.2.1, bt337.2.2.2.1, 0)) else (some (([] : List Int), ([] : List Int), 0, 0, 8)))) = some (r1, r2, r3, r4, r5) := by first | (rw [hy334]; with_reducible exact H) | (have H2_ := (Option.bind_some _ _).symm.trans H; rw [hy334]; with_reducible exact H2_) | (have H2_ := (Option.bind_some _ _).symm.trans H; with_reducible exact H2_) | with_reducible exact H | (rw [hy334]; exact H) | exact H
 have Ny334 := za hy334
 clear hy334
 replace H := Option.bind_eq_some_iff.mp H
 obtain ⟨⟨t337, t340, t343, t344, t345⟩, A50, H⟩ := H
 replace H : (if t345 = true then (some (t337, t340, t343, t344, 0)) else (some (([] : List Int), ([] : List Int), 0, 0, 8))) = some (r1, r2, r3, r4, r5) := H
 have A5 := za A50
 clear A50
 by_cases c6 : t345 = true
 ·subst c6
  have H1 : (some (t337, t340, t343, t344, 0)) = some (r1, r2, r3, r4, r5) := by rw [if_pos rfl] at H; exact H
  clear H
  have H := H1
  clear H1
  simp only [Option.some.injEq, Prod.mk.injEq] at H
  obtain ⟨rfl, rfl, rfl, rfl, rfl⟩ := H
  go_enter Try.func13, Try.ntmps13
  go_wp2_with (first | ((with_reducible refine gate_dst (N := 4) rfl ?_); refine box_event ?hg (N := 4) ?hd (cs := #[.slice none 0 0, .slice none 0 0, .int .i64 0, .int .i64 0]) (t := 28) ?hr ?_; (case hd => rfl); (case hg => rfl); (case hr => exact zH103); intro gb331 hg w7 hbox hb; have n_ := zA_ (za (zv zG95 hb)) (zA_ (za (hbox)) (zA_ (zN1 w.heap.size hg (zt zG95)) (zN1 w.heap.size hg (zt zG95)))); clear HB; obtain ⟨HB, BK331, GW331, GE331⟩ := n_; clear hb hbox hg) | ((with_reducible refine gate_callee (f := 68) rfl ?_); refine goesL_ (some 10) rfl rfl Try.func68 zG125 rfl #[.slice A0 l0.length c0, .int .i64 a1] rfl zG87 ?_; (with_reducible refine (spec_l20Begin.calls k _ _ l0 a1 t332 _ ?side1 ?side2 A3.out).mono ?_); (case side1 => exact zH58); (case side2 => exact zH110); rintro e w8 ⟨rfl, hb⟩; refine ⟨_, rfl, ?_⟩; have n_ := zA_ (za (zs (g := gb331) (o := .cells #[.slice none 0 0, .slice none 0 0, .int .i64 0, .int .i64 0] 28 (0, 0)) zG102 hb)) (za (zv zK180 hb)); clear BK331 HB; obtain ⟨BK331, HB⟩ := n_; (try clear hb); (try clear hk)) | ((with_reducible refine gate_dst (N := 18) rfl ?_); refine box_event ?hg (N := 18) ?hd (cs := #[.slice A0 l0.length c0, .int .i64 a1, .slice none 0 0, .slice none 0 0, .int .i64 0, .int .i64 0, .bool false]) (t := 113) ?hr ?_; (case hd => rfl); (case hg => rfl); (case hr => exact zH103); intro gb333 hg w9 hbox hb; have n_ := zA_ (za (zs (g := gb331) (o := .cells #[.slice none 0 0, .slice none 0 0, .int .i64 0, .int .i64 0] 28 (0, 0)) zG102 hb)) (zA_ (za (zv zK180 hb)) (zA_ (za (hbox)) (zA_ (zN1 w.heap.size hg (zt zK180)) (zA_ (zN1 w.heap.size hg (zt zK180)) (zN2 hg (zac (g := gb331) (o := .cells #[.slice none 0 0, .slice none 0 0, .int .i64 0, .int .i64 0] 28 (0, 0)) zG102)))))); clear BK331 HB; obtain ⟨BK331, HB, BK333, GW333, GE333, NB331_333, NB333_331⟩ := n_; clear hb hbox hg) | ((with_reducible refine gate_dst (N := 20) rfl ?_); refine zbg (Kd.int .i64) _ 3 ?hg (N := 20) ?hd (xs := ([] : List Int)) (inner := []) (ok := fun _ => True) (okp := fun _ => True) ?hr ?hp (fun _ hk => hk) trivial (Below.refl _ _) (Nat.le_refl _) (by simp) ?_; (case hd => rfl); (case hg => rfl); (case hr => exact zH103); (case hp => exact (Reps.none _ _)); intro v335 w10 ho11 hb hg_ hnew_; clear hg_ hnew_; (first | rw [← Ny334.out] at ho11 | (simp only [Int.reduceToNat] at ho11; rw [← Ny334.out] at ho11)); have n_ := zA_ (za (zae ho11 (zt zK170))) (zA_ (za (zs (g := gb331) (o := .cells #[.slice none 0 0, .slice none 0 0, .int .i64 0, .int .i64 0] 28 (0, 0)) zG102 hb)) (zA_ (za (zs (g := gb333) (o := .cells #[.slice A0 l0.length c0, .int .i64 a1, .slice none 0 0, .slice none 0 0, .int .i64 0, .int .i64 0, .bool false] 113 (0, 0)) (by (with_reducible repeat (first | refine zc ?_ _ | refine ze ?_ | refine zb ?_ _)); exact BK333.out) hb)) (za (zv zK170 hb)))); clear BK331 BK333 HB; obtain ⟨HO336, BK331, BK333, HB⟩ := n_; clear hb ho11; obtain ⟨Ao12, co12, eo12⟩ := zad HO336.out; subst eo12) | ((with_reducible refine gate_callee (f := 69) rfl ?_); refine goesL_ (some 21) rfl rfl Try.func69 zG125 rfl #[.pointer (some ⟨gb333, 0, none⟩), .slice Ao12 y334.length co12] rfl zG87 ?_; (refine (spec_l20Search_try.calls k gb333 A0 c0 l0 a1 (fun k_ => some k_ = (.slice none 0 0 : Value).ownBlock) (.slice none 0 0) ([] : List Int) (fun k_ => some k_ = (.slice none 0 0 : Value).ownBlock) (.slice none 0 0) ([] : List Int) 0 0 false _ _ y334 t337 t340 t343 t344 true w _ ?side1 ?side2 ?side3 ?side4 ?side5 ?side6 ?side7 ?side8 ?side9 ?side10 ?side11 A5.out).mono ?_); (case side1 => exact zH55); (case side2 => exact zH78); (case side3 => exact GE333.out); (case side4 => exact zH21); (case side5 => exact zH110); (case side6 => exact zas _ _ _ _ _); (case side7 => exact zH101); (case side8 => exact zas _ _ _ _ _); (case side9 => exact zH101); (case side10 => exact zH26); (case side11 => exact (zw HO336.out).2.1); rintro e w13 ⟨v338, v341, rfl, ho0, ho1, hz0, hb, hkp⟩; refine ⟨_, rfl, ?_⟩; have n_ := zA_ (za (zbb zG102 hkp (fun hs_ => Or.elim hs_ (fun hs_ => Or.elim hs_ (fun e_ => (fun e_ => by simp [Value.ownBlock] at e_) e_) (fun e_ => (fun e_ => by simp [Value.ownBlock] at e_) e_)) (fun e_ => NB331_333.out e_)))) (zA_ (za (hz0)) (zA_ (za (zo (ok' := fun k_ => some k_ ≠ (v338 : Value).ownBlock ∧ some k_ ≠ (v341 : Value).ownBlock) (zbi ((zq HO336.out BK333.out zG126)) hkp (fun k_ hk_ hs_ => Or.elim hs_ (fun hs_ => Or.elim hs_ (fun e_ => (fun e_ => by simp [Value.ownBlock] at e_) e_) (fun e_ => (fun e_ => by simp [Value.ownBlock] at e_) e_)) (fun e_ => (hk_.2) e_))) (fun k_ hk_ => ⟨fun e_ => Or.elim (ho0.1 k_ e_.symm).1 (fun hs_ => hk_.2.1 (Or.inl hs_)) (fun hn_ => Nat.not_le.2 hk_.2.2 hn_), fun e_ => Or.elim (ho1.1 k_ e_.symm).1 (fun hs_ => hk_.2.1 (Or.inl hs_)) (fun hn_ => Nat.not_le.2 hk_.2.2 hn_)⟩))) (zA_ (za (zo (ok' := fun k_ => some k_ ≠ (v341 : Value).ownBlock ∧ some k_ ≠ (.slice Ao12 y334.length co12 : Value).ownBlock) ho0 (fun k_ hk_ => ⟨hk_.2, Or.elim hk_.1 (fun hs_ => Or.elim hs_ (fun hs_ => absurd hs_ zK221) (fun hs_ => absurd hs_ zK221)) (fun hn_ => (Kd.fresh' (zab zK207) k_ hn_))⟩))) (zA_ (za (zo (ok' := fun k_ => some k_ ≠ (v338 : Value).ownBlock ∧ some k_ ≠ (.slice Ao12 y334.length co12 : Value).ownBlock) ho1 (fun k_ hk_ => ⟨hk_.2, Or.elim hk_.1 (fun hs_ => Or.elim hs_ (fun hs_ => absurd hs_ zK221) (fun hs_ => absurd hs_ zK221)) (fun hn_ => (Kd.fresh' (zab zK207) k_ hn_))⟩))) (za (hb)))))); clear BK331 BK333 HO336 HB; obtain ⟨BK331, BK333, HO336, HO339, HO342, HB⟩ := n_; (try clear hb); (try clear hkp); (try clear ho0); (try clear ho1); (try clear hz0); have hnb14 := NB333_331.out; have hnc14 := NB331_333.out; obtain ⟨hcz15_0, hcz15_1, hcz15_2, hcz15_3, hcz15_4, hcz15_5, hcz15_6, hfz15_0, hfz15_1, hfz15_2, hfz15_3, hfz15_4, hfz15_5, hfz15_6⟩ := zB7 BK333.out; obtain ⟨Ao16, co16, eo16⟩ := zad HO339.out; subst eo16; obtain ⟨hcz17_0, hcz17_1, hcz17_2, hcz17_3, hfz17_0, hfz17_1, hfz17_2, hfz17_3⟩ := zB4 BK331.out; obtain ⟨Ao18, co18, eo18⟩ := zad HO342.out; subst eo18))
  refine bodyPost_ret (results_ct rfl _ _ gb331 28 #[.slice Ao16 t337.length co16, .slice Ao18 t340.length co18, .int .i64 t343, .int .i64 t344] (0, 0) _ rfl (by (with_reducible repeat (first | refine zc ?_ _ | refine ze ?_ | refine zb ?_ _)); refine zu (cs := #[.slice Ao16 t337.length co16, .slice Ao18 t340.length co18, .int .i64 t343, .int .i64 0]) ?_ 3 _ rfl; (with_reducible repeat (first | refine zc ?_ _ | refine ze ?_ | refine zb ?_ _)); refine zu (cs := #[.slice Ao16 t337.length co16, .slice Ao18 t340.length co18, .int .i64 0, .int .i64 0]) ?_ 2 _ rfl; (with_reducible repeat (first | refine zc ?_ _ | refine ze ?_ | refine zb ?_ _)); refine zu (cs := #[.slice Ao16 t337.length co16, .slice none 0 0, .int .i64 0, .int .i64 0]) ?_ 1 _ rfl; (with_reducible repeat (first | refine zc ?_ _ | refine ze ?_ | refine zb ?_ _)); refine zu (cs := #[.slice none 0 0, .slice none 0 0, .int .i64 0, .int .i64 0]) ?_ 0 _ rfl; (with_reducible repeat (first | refine zc ?_ _ | refine ze ?_ | refine zb ?_ _)); exact BK331.out) Try.underlying28 rfl zG125) rfl ?_
  exact ⟨_, _, zH92, by (with_reducible repeat (first | apply zf | apply zg | apply zh)); exact zo (zd (p := ⟨gb331, 3, none⟩) (zd (p := ⟨gb331, 2, none⟩) (zd (p := ⟨gb331, 1, none⟩) (zd (p := ⟨gb331, 0, none⟩) (zq HO339.out BK331.out zG126) (fun _ hk => hk.2) (.slice Ao16 t337.length co16)) (fun _ hk => hk.2) (.slice Ao18 t340.length co18)) (fun _ hk => hk.2) (.int .i64 t343)) (fun _ hk => hk.2) (.int .i64 t344)) (fun _ hk => hk.1.1), by (with_reducible repeat (first | apply zf | apply zg | apply zh)); exact zo (zd (p := ⟨gb331, 3, none⟩) (zd (p := ⟨gb331, 2, none⟩) (zd (p := ⟨gb331, 1, none⟩) (zd (p := ⟨gb331, 0, none⟩) (zq HO342.out BK331.out zG126) (fun _ hk => hk.2) (.slice Ao16 t337.length co16)) (fun _ hk => hk.2) (.slice Ao18 t340.length co18)) (fun _ hk => hk.2) (.int .i64 t343)) (fun _ hk => hk.2) (.int .i64 t344)) (fun _ hk => hk.1.1), zH51⟩
 replace c6 := Bool.eq_false_iff.mpr c6
 subst c6
 have H1 : (some (([] : List Int), ([] : List Int), 0, 0, 8)) = some (r1, r2, r3, r4, r5) := by rw [if_neg (show ¬ (false = true) by decide)] at H; exact H
 clear H
 have H := H1
 clear H1
 simp only [Option.some.injEq, Prod.mk.injEq] at H
 obtain ⟨rfl, rfl, rfl, rfl, rfl⟩ := H
 go_enter Try.func13, Try.ntmps13
 go_wp2_with (first | ((with_reducible refine gate_dst (N := 4) rfl ?_); refine box_event ?hg (N := 4) ?hd (cs := #[.slice none 0 0, .slice none 0 0, .int .i64 0, .int .i64 0]) (t := 28) ?hr ?_; (case hd => rfl); (case hg => rfl); (case hr => exact zH103); intro gb331 hg w19 hbox hb; have n_ := zA_ (za (zv zG95 hb)) (zA_ (za (hbox)) (zA_ (zN1 w.heap.size hg (zt zG95)) (zN1 w.heap.size hg (zt zG95)))); clear HB; obtain ⟨HB, BK331, GW331, GE331⟩ := n_; clear hb hbox hg) | ((with_reducible refine gate_callee (f := 68) rfl ?_); refine goesL_ (some 10) rfl rfl Try.func68 zG125 rfl #[.slice A0 l0.length c0, .int .i64 a1] rfl zG87 ?_; (with_reducible refine (spec_l20Begin.calls k _ _ l0 a1 t332 _ ?side1 ?side2 A3.out).mono ?_); (case side1 => exact zH58); (case side2 => exact zH110); rintro e w20 ⟨rfl, hb⟩; refine ⟨_, rfl, ?_⟩; have n_ := zA_ (za (zs (g := gb331) (o := .cells #[.slice none 0 0, .slice none 0 0, .int .i64 0, .int .i64 0] 28 (0, 0)) zG102 hb)) (za (zv zK180 hb)); clear BK331 HB; obtain ⟨BK331, HB⟩ := n_; (try clear hb); (try clear hk)) | ((with_reducible refine gate_dst (N := 18) rfl ?_); refine box_event ?hg (N := 18) ?hd (cs := #[.slice A0 l0.length c0, .int .i64 a1, .slice none 0 0, .slice none 0 0, .int .i64 0, .int .i64 0, .bool false]) (t := 113) ?hr ?_; (case hd => rfl); (case hg => rfl); (case hr => exact zH103); intro gb333 hg w21 hbox hb; have n_ := zA_ (za (zs (g := gb331) (o := .cells #[.slice none 0 0, .slice none 0 0, .int .i64 0, .int .i64 0] 28 (0, 0)) zG102 hb)) (zA_ (za (zv zK180 hb)) (zA_ (za (hbox)) (zA_ (zN1 w.heap.size hg (zt zK180)) (zA_ (zN1 w.heap.size hg (zt zK180)) (zN2 hg (zac (g := gb331) (o := .cells #[.slice none 0 0, .slice none 0 0, .int .i64 0, .int .i64 0] 28 (0, 0)) zG102)))))); clear BK331 HB; obtain ⟨BK331, HB, BK333, GW333, GE333, NB331_333, NB333_331⟩ := n_; clear hb hbox hg) | ((with_reducible refine gate_dst (N := 20) rfl ?_); refine zbg (Kd.int .i64) _ 3 ?hg (N := 20) ?hd (xs := ([] : List Int)) (inner := []) (ok := fun _ => True) (okp := fun _ => True) ?hr ?hp (fun _ hk => hk) trivial (Below.refl _ _) (Nat.le_refl _) (by simp) ?_; (case hd => rfl); (case hg => rfl); (case hr => exact zH103); (case hp => exact (Reps.none _ _)); intro v335 w22 ho23 hb hg_ hnew_; clear hg_ hnew_; (first | rw [← Ny334.out] at ho23 | (simp only [Int.reduceToNat] at ho23; rw [← Ny334.out] at ho23)); have n_ := zA_ (za (zae ho23 (zt zK170))) (zA_ (za (zs (g := gb331) (o := .cells #[.slice none 0 0, .slice none 0 0, .int .i64 0, .int .i64 0] 28 (0, 0)) zG102 hb)) (zA_ (za (zs (g := gb333) (o := .cells #[.slice A0 l0.length c0, .int .i64 a1, .slice none 0 0, .slice none 0 0, .int .i64 0, .int .i64 0, .bool false] 113 (0, 0)) (by (with_reducible repeat (first | refine zc ?_ _ | refine ze ?_ | refine zb ?_ _)); exact BK333.out) hb)) (za (zv zK170 hb)))); clear BK331 BK333 HB; obtain ⟨HO336, BK331, BK333, HB⟩ := n_; clear hb ho23; obtain ⟨Ao24, co24, eo24⟩ := zad HO336.out; subst eo24) | ((with_reducible refine gate_callee (f := 69) rfl ?_); refine goesL_ (some 21) rfl rfl Try.func69 zG125 rfl #[.pointer (some ⟨gb333, 0, none⟩), .slice Ao24 y334.length co24] rfl zG87 ?_; (refine (spec_l20Search_try.calls k gb333 A0 c0 l0 a1 (fun k_ => some k_ = (.slice none 0 0 : Value).ownBlock) (.slice none 0 0) ([] : List Int) (fun k_ => some k_ = (.slice none 0 0 : Value).ownBlock) (.slice none 0 0) ([] : List Int) 0 0 false _ _ y334 t337 t340 t343 t344 false w _ ?side1 ?side2 ?side3 ?side4 ?side5 ?side6 ?side7 ?side8 ?side9 ?side10 ?side11 A5.out).mono ?_); (case side1 => exact zH55); (case side2 => exact zH78); (case side3 => exact GE333.out); (case side4 => exact zH21); (case side5 => exact zH110); (case side6 => exact zas _ _ _ _ _); (case side7 => exact zH101); (case side8 => exact zas _ _ _ _ _); (case side9 => exact zH101); (case side10 => exact zH26); (case side11 => exact (zw HO336.out).2.1); rintro e w25 ⟨v338, v341, rfl, ho0, ho1, hz0, hb, hkp⟩; refine ⟨_, rfl, ?_⟩; have n_ := zA_ (za (zbb zG102 hkp (fun hs_ => Or.elim hs_ (fun hs_ => Or.elim hs_ (fun e_ => (fun e_ => by simp [Value.ownBlock] at e_) e_) (fun e_ => (fun e_ => by simp [Value.ownBlock] at e_) e_)) (fun e_ => NB331_333.out e_)))) (zA_ (za (hz0)) (zA_ (za (zo (ok' := fun k_ => some k_ ≠ (v338 : Value).ownBlock ∧ some k_ ≠ (v341 : Value).ownBlock) (zbi ((zq HO336.out BK333.out zG126)) hkp (fun k_ hk_ hs_ => Or.elim hs_ (fun hs_ => Or.elim hs_ (fun e_ => (fun e_ => by simp [Value.ownBlock] at e_) e_) (fun e_ => (fun e_ => by simp [Value.ownBlock] at e_) e_)) (fun e_ => (hk_.2) e_))) (fun k_ hk_ => ⟨fun e_ => Or.elim (ho0.1 k_ e_.symm).1 (fun hs_ => hk_.2.1 (Or.inl hs_)) (fun hn_ => Nat.not_le.2 hk_.2.2 hn_), fun e_ => Or.elim (ho1.1 k_ e_.symm).1 (fun hs_ => hk_.2.1 (Or.inl hs_)) (fun hn_ => Nat.not_le.2 hk_.2.2 hn_)⟩))) (zA_ (za (zo (ok' := fun k_ => some k_ ≠ (v341 : Value).ownBlock ∧ some k_ ≠ (.slice Ao24 y334.length co24 : Value).ownBlock) ho0 (fun k_ hk_ => ⟨hk_.2, Or.elim hk_.1 (fun hs_ => Or.elim hs_ (fun hs_ => absurd hs_ zK221) (fun hs_ => absurd hs_ zK221)) (fun hn_ => (Kd.fresh' (zab zK207) k_ hn_))⟩))) (zA_ (za (zo (ok' := fun k_ => some k_ ≠ (v338 : Value).ownBlock ∧ some k_ ≠ (.slice Ao24 y334.length co24 : Value).ownBlock) ho1 (fun k_ hk_ => ⟨hk_.2, Or.elim hk_.1 (fun hs_ => Or.elim hs_ (fun hs_ => absurd hs_ zK221) (fun hs_ => absurd hs_ zK221)) (fun hn_ => (Kd.fresh' (zab zK207) k_ hn_))⟩))) (za (hb)))))); clear BK331 BK333 HO336 HB; obtain ⟨BK331, BK333, HO336, HO339, HO342, HB⟩ := n_; (try clear hb); (try clear hkp); (try clear ho0); (try clear ho1); (try clear hz0); have hnb26 := NB333_331.out; have hnc26 := NB331_333.out; obtain ⟨hcz27_0, hcz27_1, hcz27_2, hcz27_3, hcz27_4, hcz27_5, hcz27_6, hfz27_0, hfz27_1, hfz27_2, hfz27_3, hfz27_4, hfz27_5, hfz27_6⟩ := zB7 BK333.out; obtain ⟨hcz28_0, hcz28_1, hcz28_2, hcz28_3, hfz28_0, hfz28_1, hfz28_2, hfz28_3⟩ := zB4 BK331.out))
 refine bodyPost_ret (results_ct rfl _ _ gb331 28 #[.slice none 0 0, .slice none 0 0, .int .i64 0, .int .i64 0] (0, 0) _ rfl zK120 Try.underlying28 rfl zG125) rfl ?_
 exact ⟨_, _, zH92, zH73, zH73, zH51⟩
/-! ### impl_LeastEnd: function 14 -/
def impl_LeastEnd.l0 : Nat → Int → Int → Int → Int → List (S37) → Int → Int → Option (Int × Int)
 | 0, _, _, _, _, _, _, _ => none
 | k + 1, x1, x7, x8, x9, x20, x21, x22 => if x22 < x21 then (if 0 ≤ x22 then (if x22 < (x20.length : Int) then ((impl_away.f 0 0 0 0 0 ((rd_T37 x20 x22).f0) ((rd_T37 x20 x22).f1) ((rd_T37 x20 x22).f2) ((rd_T37 x20 x22).f3) ((rd_T37 x20 x22).f4)).bind fun t349 => (impl_LeastEnd.l0 k x1 (mx x7 (wrap64 ((wrap64 ((mx (wrap64 (x1 + t349)) ((rd_T37 x20 x22).f2)) + ((rd_T37 x20 x22).f4))) + t349))) (wrap64 (x8 + ((rd_T37 x20 x22).f4))) (mx x9 t349) x20 x21 (wrap64 (x22 + 1)))) else (none)) else (none)) else (some (mx x7 (wrap64 ((wrap64 (x1 + x8)) + (wrap64 (2 * x9)))), 0))
def impl_LeastEnd.f (k : Nat) (l0 : List (S37)) (a1 : Int) : Option (Int × Int) := (impl_stopsCode.f k l0 a1).bind fun t346 => (if t346 = 0 then (impl_LeastEnd.l0 k a1 a1 0 0 l0 (l0.length : Int) 0) else (some (0, t346)))
theorem impl_LeastEnd.mono_l : ∀ k, (∀ y0 y1 y2 y3 y4 y5 y6, LeO (impl_LeastEnd.l0 k y0 y1 y2 y3 y4 y5 y6) (impl_LeastEnd.l0 (k + 1) y0 y1 y2 y3 y4 y5 y6))
 | 0 => fun _ _ _ _ _ _ _ r h => by simp [impl_LeastEnd.l0] at h
 | k + 1 => by
  have ih0 := impl_LeastEnd.mono_l k
  ·intro y0 y1 y2 y3 y4 y5 y6
   unfold impl_LeastEnd.l0
   repeat' first
   | (with_reducible exact ih0 _ _ _ _ _ _ _)
   | (with_reducible exact impl_stopsCode.mono _ _ _)
   | (with_reducible exact LeO.refl _)
   | (with_reducible exact LeO.none _)
   | (with_reducible refine LeO.ite ?_ ?_)
   | (with_reducible refine LeO.bind ?_ (fun _ => ?_))
   | exact ih0 _ _ _ _ _ _ _
   | exact impl_stopsCode.mono _ _ _
   | exact LeO.none _
   | refine LeO.ite ?_ ?_
   | refine LeO.bind ?_ (fun _ => ?_)
theorem impl_LeastEnd.mono : ∀ a0 a1 k, LeO (impl_LeastEnd.f k a0 a1) (impl_LeastEnd.f (k + 1) a0 a1) := by
 intro a0 a1 k
 have ih0 := impl_LeastEnd.mono_l k
 unfold impl_LeastEnd.f
 repeat' first
   | (with_reducible exact ih0 _ _ _ _ _ _ _)
   | (with_reducible exact impl_stopsCode.mono _ _ _)
   | (with_reducible exact LeO.refl _)
   | (with_reducible exact LeO.none _)
   | (with_reducible refine LeO.ite ?_ ?_)
   | (with_reducible refine LeO.bind ?_ (fun _ => ?_))
   | exact ih0 _ _ _ _ _ _ _
   | exact impl_stopsCode.mono _ _ _
   | exact LeO.none _
   | refine LeO.ite ?_ ?_
   | refine LeO.bind ?_ (fun _ => ?_)
set_option maxHeartbeats 64000000 in
set_option maxRecDepth 100000 in
theorem impl_LeastEnd.calls (k : Nat) (A0 : Option Addr) (c0 : Nat) (l0 : List (S37)) (a1 : Int) (r1 : Int) (r2 : Int) (w : World) (hr0 : Kd.C k37 w A0 l0.length l0) (hc0 : l0.length ≤ c0) (h : impl_LeastEnd.f k l0 a1 = some (r1, r2)) :
  Calls Try.prog 14 #[.slice A0 l0.length c0, .int .i64 a1] w fun e w' => e = .returned (.tuple #[.int .i64 r1, .int .i64 r2]) ∧ Below w.heap.size w w' := by
 have hu37 := Try.underlying37
 obtain ⟨HR0, HC0, HB⟩ := zD3 hr0 hc0 (Below.refl w.heap.size w)
 clear hr0 hc0
 have H : ((impl_stopsCode.f k l0 a1).bind fun t346 => (if t346 = 0 then (impl_LeastEnd.l0 k a1 a1 0 0 l0 (l0.length : Int) 0) else (some (0, t346)))) = some (r1, r2) := h
 clear h
 replace H := Option.bind_eq_some_iff.mp H
 obtain ⟨t346, A30, H⟩ := H
 replace H : (if t346 = 0 then (impl_LeastEnd.l0 k a1 a1 0 0 l0 (l0.length : Int) 0) else (some (0, t346))) = some (r1, r2) := H
 have A3 := za A30
 clear A30
 by_cases c4 : t346 = 0
 rotate_left
 ·rw [if_neg c4] at H
  have c4b0 : (t346 == 0) = false := beq_eq_false_iff_ne.mpr c4
  have c4b1 : (t346 != 0) = true := bne_iff_ne.mpr c4
  simp only [Option.some.injEq, Prod.mk.injEq] at H
  obtain ⟨rfl, rfl⟩ := H
  go_enter Try.func14, Try.ntmps14
  go_wp2_with (first | ((with_reducible refine gate_callee (f := 59) rfl ?_); refine goesL_ (some 15) rfl rfl Try.func59 zG125 rfl #[.slice A0 l0.length c0, .int .i64 a1] rfl zG87 ?_; (with_reducible refine (impl_stopsCode.calls k _ _ l0 a1 t346 _ ?side1 ?side2 A3.out).mono ?_); (case side1 => exact zH68); (case side2 => exact zH110); rintro e w18 ⟨rfl, hb⟩; refine ⟨_, rfl, ?_⟩; replace HB := za (zv zG95 hb); (try clear hb)))
  go_ret2
  exact zH36

 rw [if_pos c4] at H
 have c4b0 : (t346 == 0) = true := beq_iff_eq.mpr c4
 have c4b1 : (t346 != 0) = false := bne_eq_false_iff_eq.mpr c4
 clear c4
 have H' := za H
 clear H
 go_enter Try.func14, Try.ntmps14
 go_wp2_with (first | ((with_reducible refine gate_callee (f := 59) rfl ?_); refine goesL_ (some 15) rfl rfl Try.func59 zG125 rfl #[.slice A0 l0.length c0, .int .i64 a1] rfl zG87 ?_; (with_reducible refine (impl_stopsCode.calls k _ _ l0 a1 t346 _ ?side1 ?side2 A3.out).mono ?_); (case side1 => exact zH68); (case side2 => exact zH110); rintro e w5 ⟨rfl, hb⟩; refine ⟨_, rfl, ?_⟩; replace HB := za (zv zG95 hb); (try clear hb)))
 go_loopg [7, 8, 9, 22] k (fun kq v7 v8 v9 v22 w' => ∃ (x7_1 : Int) (x8_1 : Int) (x9_1 : Int) (x22_1 : Int), v7 = .int .i64 x7_1 ∧ v8 = .int .i64 x8_1 ∧ v9 = .int .i64 x9_1 ∧ v22 = .int .i64 x22_1 ∧ Aside0 (impl_LeastEnd.l0 kq a1 x7_1 x8_1 x9_1 l0 (l0.length : Int) x22_1 = some (r1, r2)) ∧ Aside0 (kq ≤ k) ∧ Aside0 (Below w.heap.size w w'))
 case atStart => exact ⟨(a1), (0), (0), (0), zG124, zG124, zG124, zG124, H', ⟨Nat.le_refl _⟩, ⟨zH83⟩⟩
 case round =>
  clear H'
  try clear c4
  try clear c4b0
  try clear c4b1
  obtain ⟨x7_1, x8_1, x9_1, x22_1, rfl, rfl, rfl, rfl, HA, HK1, HB⟩ := hrel
  cases gk with
  | zero => exact absurd HA.out (by simp [impl_LeastEnd.l0])
  | succ k1 =>
   have H := HA.out
   clear HA
   simp only [impl_LeastEnd.l0] at H
   by_cases c6 : x22_1 < (l0.length : Int)
   rotate_left
   ·rw [if_neg c6] at H
    have c6b0 := decide_eq_false c6
    clear c6
    obtain ⟨ji17, hji17⟩ : ∃ j_ : Int, (mx x7_1 (wrap64 ((wrap64 (a1 + x8_1)) + (wrap64 (2 * x9_1))))) = j_ := ⟨_, rfl⟩
    replace H : (some (ji17, 0)) = some (r1, r2) := by first | (rw [hji17] at H; exact H) | (simp only [hji17] at H ⊢; exact H)
    have hji17_ : (if x7_1 < (wrap64 ((wrap64 (a1 + x8_1)) + (wrap64 (2 * x9_1)))) then (wrap64 ((wrap64 (a1 + x8_1)) + (wrap64 (2 * x9_1)))) else x7_1) = ji17 := hji17
    simp only [Option.some.injEq, Prod.mk.injEq] at H
    obtain ⟨rfl, rfl⟩ := H
    go_wp2
    go_ret2
    exact ⟨by first | rfl | (simp [errW_none, errW_some] <;> rfl) | (simp only [← hji17]; first | rfl | (simp [errW_none, errW_some] <;> rfl)) | (simp [*, errW_none, errW_some] <;> rfl), zH83⟩
   rw [if_pos c6] at H
   have c6b0 := decide_eq_true c6
   clear c6
   by_cases c7 : 0 ≤ x22_1
   rotate_left
   ·rw [if_neg c7] at H
    exact absurd H (by simp)
   rw [if_pos c7] at H
   have c7b0 := decide_eq_true c7
   clear c7
   by_cases c8 : x22_1 < (l0.length : Int)
   rotate_left
   ·rw [if_neg c8] at H
    exact absurd H (by simp)
   rw [if_pos c8] at H
   have c8b0 := decide_eq_true c8
   clear c8
   replace H := Option.bind_eq_some_iff.mp H
   obtain ⟨t349, A90, H⟩ := H
   replace H : (impl_LeastEnd.l0 k1 a1 (mx x7_1 (wrap64 ((wrap64 ((mx (wrap64 (a1 + t349)) ((rd_T37 l0 x22_1).f2)) + ((rd_T37 l0 x22_1).f4))) + t349))) (wrap64 (x8_1 + ((rd_T37 l0 x22_1).f4))) (mx x9_1 t349) l0 (l0.length : Int) (wrap64 (x22_1 + 1))) = some (r1, r2) := H
   have A9 := za A90
   clear A90
   obtain ⟨ji10, hji10⟩ : ∃ j_ : Int, (mx (wrap64 (a1 + t349)) ((rd_T37 l0 x22_1).f2)) = j_ := ⟨_, rfl⟩
   replace H : (impl_LeastEnd.l0 k1 a1 (mx x7_1 (wrap64 ((wrap64 ((ji10) + ((rd_T37 l0 x22_1).f4))) + t349))) (wrap64 (x8_1 + ((rd_T37 l0 x22_1).f4))) (mx x9_1 t349) l0 (l0.length : Int) (wrap64 (x22_1 + 1))) = some (r1, r2) := by first | (rw [hji10] at H; exact H) | (simp only [hji10] at H ⊢; exact H)
   (try rw [hji10] at A9)
   have hji10_ : (if (wrap64 (a1 + t349)) < ((rd_T37 l0 x22_1).f2) then ((rd_T37 l0 x22_1).f2) else (wrap64 (a1 + t349))) = ji10 := hji10
   obtain ⟨ji11, hji11⟩ : ∃ j_ : Int, (mx x7_1 (wrap64 ((wrap64 ((ji10) + ((rd_T37 l0 x22_1).f4))) + t349))) = j_ := ⟨_, rfl⟩
   replace H : (impl_LeastEnd.l0 k1 a1 ji11 (wrap64 (x8_1 + ((rd_T37 l0 x22_1).f4))) (mx x9_1 t349) l0 (l0.length : Int) (wrap64 (x22_1 + 1))) = some (r1, r2) := by first | (rw [hji11] at H; exact H) | (simp only [hji11] at H ⊢; exact H)
   (try rw [hji11] at A9)
   have hji11_ : (if x7_1 < (wrap64 ((wrap64 ((ji10) + ((rd_T37 l0 x22_1).f4))) + t349)) then (wrap64 ((wrap64 ((ji10) + ((rd_T37 l0 x22_1).f4))) + t349)) else x7_1) = ji11 := hji11
   obtain ⟨ji12, hji12⟩ : ∃ j_ : Int, (mx x9_1 t349) = j_ := ⟨_, rfl⟩
   replace H : (impl_LeastEnd.l0 k1 a1 ji11 (wrap64 (x8_1 + ((rd_T37 l0 x22_1).f4))) ji12 l0 (l0.length : Int) (wrap64 (x22_1 + 1))) = some (r1, r2) := by first | (rw [hji12] at H; exact H) | (simp only [hji12] at H ⊢; exact H)
   (try rw [hji12] at A9)
   have hji12_ : (if x9_1 < t349 then t349 else x9_1) = ji12 := hji12
   have H' := za H
   clear H
   have p347 : 0 ≤ (x22_1 : Int) := zO
   have q347 : x22_1 < (l0.length : Int) := zO
   obtain ⟨ad347, e347, hx347_0, hx347_1, hx347_2, hx347_3, hx347_4⟩ := at_T37 HR0.out x22_1 p347 q347
   cases e347
   replace hx347_0 := (HB.out.cell (zx w _ hx347_0)).trans hx347_0
   replace hx347_1 := (HB.out.cell (zx w _ hx347_1)).trans hx347_1
   replace hx347_2 := (HB.out.cell (zx w _ hx347_2)).trans hx347_2
   replace hx347_3 := (HB.out.cell (zx w _ hx347_3)).trans hx347_3
   replace hx347_4 := (HB.out.cell (zx w _ hx347_4)).trans hx347_4
   replace p347 := eq_true p347
   replace q347 := eq_true q347
   go_wp2_with (first | ((with_reducible refine gate_dst (N := 11) rfl ?_); refine box_event ?hg (N := 11) ?hd (cs := #[.int .i64 0, .int .i64 0, .int .i64 0, .int .i64 0, .int .i64 0]) (t := 37) ?hr ?_; (case hd => rfl); (case hg => rfl); (case hr => exact zH103); intro gb348 hg w13 hbox hb; have n_ := zA_ (za (zv zG95 hb)) (zA_ (za (hbox)) (zA_ (zN1 w.heap.size hg (zt zG95)) (zN1 w.heap.size hg (zt zG95)))); clear HB; obtain ⟨HB, BK348, GW348, GE348⟩ := n_; clear hb hbox hg; obtain ⟨hcz14_0, hcz14_1, hcz14_2, hcz14_3, hcz14_4, hfz14_0, hfz14_1, hfz14_2, hfz14_3, hfz14_4⟩ := zB5 BK348.out) | ((with_reducible refine gate_callee (f := 70) rfl ?_); refine goesL_ (some 28) rfl rfl Try.func70 zG125 rfl #[.agg #[.int .i64 0, .int .i64 0, .int .i64 0, .int .i64 0, .int .i64 0], .agg #[.int .i64 ((rd_T37 l0 x22_1).f0), .int .i64 ((rd_T37 l0 x22_1).f1), .int .i64 ((rd_T37 l0 x22_1).f2), .int .i64 ((rd_T37 l0 x22_1).f3), .int .i64 ((rd_T37 l0 x22_1).f4)]] rfl zG87 ?_; (with_reducible refine (impl_away.calls 0 0 0 0 0 ((rd_T37 l0 x22_1).f0) ((rd_T37 l0 x22_1).f1) ((rd_T37 l0 x22_1).f2) ((rd_T37 l0 x22_1).f3) ((rd_T37 l0 x22_1).f4) t349 _ A9.out).mono ?_); rintro e w15 ⟨rfl, hb⟩; refine ⟨_, rfl, ?_⟩; have n_ := zA_ (za (zs (g := gb348) (o := .cells #[.int .i64 ((rd_T37 l0 x22_1).f0), .int .i64 ((rd_T37 l0 x22_1).f1), .int .i64 ((rd_T37 l0 x22_1).f2), .int .i64 ((rd_T37 l0 x22_1).f3), .int .i64 ((rd_T37 l0 x22_1).f4)] 37 (0, 0)) (by (with_reducible repeat (first | refine zc ?_ _ | refine ze ?_ | refine zb ?_ _)); refine zu (cs := #[.int .i64 ((rd_T37 l0 x22_1).f0), .int .i64 ((rd_T37 l0 x22_1).f1), .int .i64 ((rd_T37 l0 x22_1).f2), .int .i64 ((rd_T37 l0 x22_1).f3), .int .i64 0]) ?_ 4 _ rfl; (with_reducible repeat (first | refine zc ?_ _ | refine ze ?_ | refine zb ?_ _)); refine zu (cs := #[.int .i64 ((rd_T37 l0 x22_1).f0), .int .i64 ((rd_T37 l0 x22_1).f1), .int .i64 ((rd_T37 l0 x22_1).f2), .int .i64 0, .int .i64 0]) ?_ 3 _ rfl; (with_reducible repeat (first | refine zc ?_ _ | refine ze ?_ | refine zb ?_ _)); refine zu (cs := #[.int .i64 ((rd_T37 l0 x22_1).f0), .int .i64 ((rd_T37 l0 x22_1).f1), .int .i64 0, .int .i64 0, .int .i64 0]) ?_ 2 _ rfl; (with_reducible repeat (first | refine zc ?_ _ | refine ze ?_ | refine zb ?_ _)); refine zu (cs := #[.int .i64 ((rd_T37 l0 x22_1).f0), .int .i64 0, .int .i64 0, .int .i64 0, .int .i64 0]) ?_ 1 _ rfl; (with_reducible repeat (first | refine zc ?_ _ | refine ze ?_ | refine zb ?_ _)); refine zu (cs := #[.int .i64 0, .int .i64 0, .int .i64 0, .int .i64 0, .int .i64 0]) ?_ 0 _ rfl; (with_reducible repeat (first | refine zc ?_ _ | refine ze ?_ | refine zb ?_ _)); exact BK348.out) hb)) (za (zv (by repeat (first | (with_reducible first | exact HB.out | apply zm | apply zj | apply zk | refine zi ?_ GE348.out) | exact HB.out)) hb)); clear BK348 HB; obtain ⟨BK348, HB⟩ := n_; (try clear hb); obtain ⟨hcz16_0, hcz16_1, hcz16_2, hcz16_3, hcz16_4, hfz16_0, hfz16_1, hfz16_2, hfz16_3, hfz16_4⟩ := zB5 BK348.out))
   go_roundg k1
   case measure => have := HK1.out; omega
   case rel => exact ⟨(ji11), (wrap64 (x8_1 + ((rd_T37 l0 x22_1).f4))), (ji12), (wrap64 (x22_1 + 1)), (by first | rfl | (simp; done) | (simp only [← hji11] <;> (first | rfl | simp)) | (simp [*]; done)), zG124, (by first | rfl | (simp; done) | (simp only [← hji12] <;> (first | rfl | simp)) | (simp [*]; done)), zG124, H', ⟨zH106⟩, ⟨by repeat (first | (with_reducible first | exact HB.out | apply zm | apply zj | apply zk | refine zi ?_ GE348.out) | exact HB.out)⟩⟩
/-! ### laws_sameInts: function 15 -/
def laws_sameInts.l0 : Nat → List Int → List Int → Int → Option (Bool)
 | 0, _, _, _ => none
 | k + 1, x0, x1, x5 => if x5 < (x0.length : Int) then (if 0 ≤ x5 then (if x5 < (x1.length : Int) then (if (rd x0 x5) = (rd x1 x5) then (laws_sameInts.l0 k x0 x1 (wrap64 (x5 + 1))) else (some false)) else (none)) else (none)) else (some true)
def laws_sameInts.f (k : Nat) (l0 : List Int) (l1 : List Int) : Option (Bool) := if (l0.length : Int) = (l1.length : Int) then (laws_sameInts.l0 k l0 l1 0) else (some false)
theorem laws_sameInts.mono_l : ∀ k, (∀ y0 y1 y2, LeO (laws_sameInts.l0 k y0 y1 y2) (laws_sameInts.l0 (k + 1) y0 y1 y2))
 | 0 => fun _ _ _ r h => by simp [laws_sameInts.l0] at h
 | k + 1 => by
  have ih0 := laws_sameInts.mono_l k
  ·intro y0 y1 y2
   unfold laws_sameInts.l0
   repeat' first
   | (with_reducible exact ih0 _ _ _)
   | (with_reducible exact LeO.refl _)
   | (with_reducible exact LeO.none _)
   | (with_reducible refine LeO.ite ?_ ?_)
   | (with_reducible refine LeO.bind ?_ (fun _ => ?_))
   | exact ih0 _ _ _
   | exact LeO.none _
   | refine LeO.ite ?_ ?_
   | refine LeO.bind ?_ (fun _ => ?_)
theorem laws_sameInts.mono : ∀ a0 a1 k, LeO (laws_sameInts.f k a0 a1) (laws_sameInts.f (k + 1) a0 a1) := by
 intro a0 a1 k
 have ih0 := laws_sameInts.mono_l k
 unfold laws_sameInts.f
 repeat' first
   | (with_reducible exact ih0 _ _ _)
   | (with_reducible exact LeO.refl _)
   | (with_reducible exact LeO.none _)
   | (with_reducible refine LeO.ite ?_ ?_)
   | (with_reducible refine LeO.bind ?_ (fun _ => ?_))
   | exact ih0 _ _ _
   | exact LeO.none _
   | refine LeO.ite ?_ ?_
   | refine LeO.bind ?_ (fun _ => ?_)
set_option maxHeartbeats 64000000 in
set_option maxRecDepth 100000 in
theorem laws_sameInts.calls (k : Nat) (A0 : Option Addr) (c0 : Nat) (l0 : List Int) (A1 : Option Addr) (c1 : Nat) (l1 : List Int) (r : Bool) (w : World) (hr0 : Kd.C (Kd.int .i64) w A0 l0.length l0) (hc0 : l0.length ≤ c0) (hr1 : Kd.C (Kd.int .i64) w A1 l1.length l1) (hc1 : l1.length ≤ c1) (h : laws_sameInts.f k l0 l1 = some r) :
  Calls Try.prog 15 #[.slice A0 l0.length c0, .slice A1 l1.length c1] w fun e w' => e = .returned (.bool r) ∧ Drawn0 w w' := by
 obtain ⟨HR0, HC0, HR1, HC1⟩ := zD4 hr0 hc0 hr1 hc1
 clear hr0 hc0 hr1 hc1
 have H : (if (l0.length : Int) = (l1.length : Int) then (laws_sameInts.l0 k l0 l1 0) else (some false)) = some r := h
 clear h
 by_cases c3 : (l0.length : Int) = (l1.length : Int)
 rotate_left
 ·rw [if_neg c3] at H
  have c3b0 : ((l0.length : Int) == (l1.length : Int)) = false := beq_eq_false_iff_ne.mpr c3
  have c3b1 : ((l0.length : Int) != (l1.length : Int)) = true := bne_iff_ne.mpr c3
  have c3b2 : (l0.length == l1.length) = false := by first | simpa using c3 | (simp at c3 ⊢; omega)
  obtain rfl := Option.some.inj H
  go_enter Try.func15, Try.ntmps15
  go_wp2
  repeat (go_quiet (fail); try go_wp2)
  go_ret
  exact zH74

 rw [if_pos c3] at H
 have c3b0 : ((l0.length : Int) == (l1.length : Int)) = true := beq_iff_eq.mpr c3
 have c3b1 : ((l0.length : Int) != (l1.length : Int)) = false := bne_eq_false_iff_eq.mpr c3
 have c3b2 : (l0.length == l1.length) = true := by first | simpa using c3 | (simp at c3 ⊢; omega)
 clear c3
 have H' := za H
 clear H
 go_enter Try.func15, Try.ntmps15
 go_wp2
 repeat (go_quiet (fail); try go_wp2)
 go_loopg [5] k (fun kq v5 w' => ∃ (x5_1 : Int), v5 = .int .i64 x5_1 ∧ Aside0 (laws_sameInts.l0 kq l0 l1 x5_1 = some r) ∧ Aside0 (kq ≤ k) ∧ Drawn0 w w')
 case atStart => exact ⟨(0), zG124, H', ⟨Nat.le_refl _⟩, zH99⟩
 case round =>
  clear H'
  try clear c1
  try clear c3
  try clear c3b0
  try clear c3b1
  try clear c3b2
  obtain ⟨x5_1, rfl, HA, HK1, ⟨m1, rfl⟩⟩ := hrel
  cases gk with
  | zero => exact absurd HA.out (by simp [laws_sameInts.l0])
  | succ k1 =>
   have H := HA.out
   clear HA
   simp only [laws_sameInts.l0] at H
   by_cases c4 : x5_1 < (l0.length : Int)
   rotate_left
   ·rw [if_neg c4] at H
    have c4b0 := decide_eq_false c4
    clear c4
    obtain rfl := Option.some.inj H
    go_wp2
    repeat (go_quiet (fail); try go_wp2)
    go_ret
    exact zH74
   rw [if_pos c4] at H
   have c4b0 := decide_eq_true c4
   clear c4
   by_cases c5 : 0 ≤ x5_1
   rotate_left
   ·rw [if_neg c5] at H
    exact absurd H (by simp)
   rw [if_pos c5] at H
   have c5b0 := decide_eq_true c5
   clear c5
   by_cases c6 : x5_1 < (l1.length : Int)
   rotate_left
   ·rw [if_neg c6] at H
    exact absurd H (by simp)
   rw [if_pos c6] at H
   have c6b0 := decide_eq_true c6
   clear c6
   by_cases c7 : (rd l0 x5_1) = (rd l1 x5_1)
   rotate_left
   ·rw [if_neg c7] at H
    have c7b0 : ((rd l0 x5_1) == (rd l1 x5_1)) = false := beq_eq_false_iff_ne.mpr c7
    have c7b1 : ((rd l0 x5_1) != (rd l1 x5_1)) = true := bne_iff_ne.mpr c7
    obtain rfl := Option.some.inj H
    have p350 : 0 ≤ (x5_1 : Int) := zO
    have q350 : x5_1 < (l0.length : Int) := zO
    obtain ⟨ad350, e350, hx350_0⟩ := zao HR0.out x5_1 p350 q350
    cases e350
    replace p350 := eq_true p350
    replace q350 := eq_true q350
    have p351 : 0 ≤ (x5_1 : Int) := zO
    have q351 : x5_1 < (l1.length : Int) := zO
    obtain ⟨ad351, e351, hx351_0⟩ := zao HR1.out x5_1 p351 q351
    cases e351
    replace p351 := eq_true p351
    replace q351 := eq_true q351
    go_wp2
    repeat (go_quiet (fail); try go_wp2)
    go_ret
    exact zH74
   rw [if_pos c7] at H
   have c7b0 : ((rd l0 x5_1) == (rd l1 x5_1)) = true := beq_iff_eq.mpr c7
   have c7b1 : ((rd l0 x5_1) != (rd l1 x5_1)) = false := bne_eq_false_iff_eq.mpr c7
   clear c7
   have H' := za H
   clear H
   have p350 : 0 ≤ (x5_1 : Int) := zO
   have q350 : x5_1 < (l0.length : Int) := zO
   obtain ⟨ad350, e350, hx350_0⟩ := zao HR0.out x5_1 p350 q350
   cases e350
   replace p350 := eq_true p350
   replace q350 := eq_true q350
   have p351 : 0 ≤ (x5_1 : Int) := zO
   have q351 : x5_1 < (l1.length : Int) := zO
   obtain ⟨ad351, e351, hx351_0⟩ := zao HR1.out x5_1 p351 q351
   cases e351
   replace p351 := eq_true p351
   replace q351 := eq_true q351
   go_wp2
   repeat (go_quiet (fail); try go_wp2)
   go_roundg k1
   case measure => have := HK1.out; omega
   case rel => exact ⟨(wrap64 (x5_1 + 1)), zG124, H', ⟨zH106⟩, zH99⟩
end Go.Proofs.Ytojncbpeeboooaa.Q
