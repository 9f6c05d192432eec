-- squeezed
-- made by pp.py (wip/tools) out of the translation; Lean checks it
import Derived.Test.YtojncbpeeboooaaV0
import Derived.Test.YtojncbpeeboooaaV9
import Derived.Test.YtojncbpeeboooaaV11
namespace Go.Proofs.Ytojncbpeeboooaa.V
open Go.RowKit Go.Proofs.YtojncbpeeboooaaW.PrintWords Go.Proofs.YtojncbpeeboooaaW.PrintLast Go.Proofs.YtojncbpeeboooaaW.PrintMore
attribute [local go_sem] max2_int min2_int max_two min_two max_three min_three max_four min_four   -- for this text's walks alone
set_option linter.unusedVariables false
set_option linter.unusedSimpArgs false


/-! ### spec_BestSource: function 27 -/
def spec_BestSource.j0 : Nat → List (S58) → List (S124) → Bool → Option (List Int × Int × Int × Int)
 | 0, _, _, _ => none
 | k + 1, x0, x1, x14 => if x14 = true then (some (([] : List Int), 0, 0, 2)) else ((spec_SourcesOK.f k x0 x1).bind fun t278 => (if t278 = true then ((spec_l23Search_try.f k x0 x1 ([] : List Int) 0 0 false (([] : List Int))).bind fun bt283 => (if bt283.2.2.2 = true then (some (bt283.1, bt283.2.1, bt283.2.2.1, 0)) else (some (([] : List Int), 0, 0, 8)))) else (some (([] : List Int), 0, 0, 1))))
def spec_BestSource.f (k : Nat) (l0 : List (S58)) (l1 : List (S124)) : Option (List Int × Int × Int × Int) := if (l0.length : Int) > 4096 then (spec_BestSource.j0 k l0 l1 true) else (spec_BestSource.j0 k l0 l1 (decide ((l1.length : Int) > 4096)))
theorem spec_BestSource.mono_l : ∀ k, (∀ y0 y1 y2, LeO (spec_BestSource.j0 k y0 y1 y2) (spec_BestSource.j0 (k + 1) y0 y1 y2))
 | 0 => fun _ _ _ r h => by simp [spec_BestSource.j0] at h
 | k + 1 => by
  have ih0 := spec_BestSource.mono_l k
  ·intro y0 y1 y2
   unfold spec_BestSource.j0
   repeat' first
   | (with_reducible exact ih0 _ _ _)
   | (with_reducible exact spec_SourcesOK.mono _ _ _)
   | (with_reducible exact spec_l23Search_try.mono _ _ _ _ _ _ _ _)
   | (with_reducible exact LeO.refl _)
   | (with_reducible exact LeO.none _)
   | (with_reducible refine LeO.ite ?_ ?_)
   | (with_reducible refine LeO.bind ?_ (fun _ => ?_))
   | exact ih0 _ _ _
   | exact spec_SourcesOK.mono _ _ _
   | exact spec_l23Search_try.mono _ _ _ _ _ _ _ _
   | exact LeO.none _
   | refine LeO.ite ?_ ?_
   | refine LeO.bind ?_ (fun _ => ?_)
theorem spec_BestSource.mono : ∀ a0 a1 k, LeO (spec_BestSource.f k a0 a1) (spec_BestSource.f (k + 1) a0 a1) := by
 intro a0 a1 k
 have ih0 := spec_BestSource.mono_l k
 unfold spec_BestSource.f
 repeat' first
   | (with_reducible exact ih0 _ _ _)
   | (with_reducible exact spec_SourcesOK.mono _ _ _)
   | (with_reducible exact spec_l23Search_try.mono _ _ _ _ _ _ _ _)
   | (with_reducible exact LeO.refl _)
   | (with_reducible exact LeO.none _)
   | (with_reducible refine LeO.ite ?_ ?_)
   | (with_reducible refine LeO.bind ?_ (fun _ => ?_))
   | exact ih0 _ _ _
   | exact spec_SourcesOK.mono _ _ _
   | exact spec_l23Search_try.mono _ _ _ _ _ _ _ _
   | exact LeO.none _
   | refine LeO.ite ?_ ?_
   | refine LeO.bind ?_ (fun _ => ?_)
set_option maxHeartbeats 64000000 in
set_option maxRecDepth 100000 in
theorem spec_BestSource.calls (k : Nat) (A0 : Option Addr) (c0 : Nat) (l0 : List (S58)) (A1 : Option Addr) (c1 : Nat) (l1 : List (S124)) (r1 : List Int) (r2 : Int) (r3 : Int) (r4 : Int) (w : World) (hr0 : Kd.C k58 w A0 l0.length l0) (hc0 : l0.length ≤ c0) (hr1 : Kd.C k124 w A1 l1.length l1) (hc1 : l1.length ≤ c1) (h : spec_BestSource.f k l0 l1 = some (r1, r2, r3, r4)) :
  Calls Try.prog 27 #[.slice A0 l0.length c0, .slice A1 l1.length c1] w fun e w' => ∃ v0_ : Value, e = .returned (.tuple #[.agg #[v0_, .int .i64 r2, .int .i64 r3], .int .i64 r4]) ∧ Kd.R (Kd.int .i64) 3 w' w.heap.size (fun _ => True) v0_ r1 ∧ Below w.heap.size w w' := by
 have hu52 := Try.underlying52
 have hu136 := Try.underlying136
 obtain ⟨HR0, HC0, HR1, HC1, HB⟩ := zD5 hr0 hc0 hr1 hc1 (Below.refl w.heap.size w)
 clear hr0 hc0 hr1 hc1
 have H : (if (l0.length : Int) > 4096 then (spec_BestSource.j0 k l0 l1 true) else (spec_BestSource.j0 k l0 l1 (decide ((l1.length : Int) > 4096)))) = some (r1, r2, r3, r4) := h
 clear h
 have HC3 := za H
 clear H
 go_enter Try.func27, Try.ntmps27
 go_upto_region 1 with (first | ((with_reducible refine gate_dst (N := 4) rfl ?_); (try (refine gate_guard (by rfl) ?_; dsimp only)); refine box_event ?hg (N := 4) ?hd (cs := #[.slice none 0 0, .int .i64 0, .int .i64 0]) (t := 52) ?hr ?_; (case hd => rfl); (case hg => rfl); (case hr => exact zH124); intro gb277 hg w4 hbox hb; have n_ := zA_ (za (zq zG85 hb)) (zA_ (za (hbox)) (zA_ (zN1 w.heap.size hg (zp zG85)) (zN1 w.heap.size hg (zp zG85)))); clear HB; obtain ⟨HB, BK277, GW277, GE277⟩ := n_; clear hb hbox hg))
 (try simp only [Act.put, List.setIfInBounds_toArray, List.set_cons_zero, List.set_cons_succ])
 go_cut [14] (fun v14 wc => ∃ (kq : Nat) (x14_2 : Bool), v14 = .bool x14_2 ∧ Aside0 (spec_BestSource.j0 kq l0 l1 x14_2 = some (r1, r2, r3, r4)) ∧ Aside0 (kq ≤ k) ∧ Aside0 (wc.heap[gb277]? = some (.cells #[(.slice none 0 0), .int .i64 0, .int .i64 0] 52 (0, 0))) ∧ Aside0 (Below w.heap.size w wc))
 case first =>
  have H := HC3.out
  clear HC3
  by_cases c5 : (l0.length : Int) > 4096
  rotate_left
  ·rw [if_neg c5] at H
   have c5b0 : decide (4096 < (l0.length : Int)) = false := decide_eq_false c5
   have c5b1 : decide (4096 < l0.length) = false := decide_eq_false (by omega)
   clear c5
   (first | rw [c5b0] | (simp only [i64_w, i32_w]; rw [c5b0]) | skip)
   have H' := za H
   clear H
   go_wp2
   go_meet
   case rel => exact ⟨_, (decide ((l1.length : Int) > 4096)), zG105, H', ⟨zH125⟩, ⟨by (with_reducible repeat (first | refine zc ?_ _ | refine ze ?_ | refine zb ?_ _)); exact BK277.out⟩, ⟨zH83⟩⟩
  rw [if_pos c5] at H
  have c5b0 : decide (4096 < (l0.length : Int)) = true := decide_eq_true c5
  have c5b1 : decide (4096 < l0.length) = true := decide_eq_true (by omega)
  clear c5
  (first | rw [c5b0] | (simp only [i64_w, i32_w]; rw [c5b0]) | skip)
  have H' := za H
  clear H
  go_wp2
  go_meet
  case rel => exact ⟨_, (true), zG105, H', ⟨zH125⟩, ⟨by (with_reducible repeat (first | refine zc ?_ _ | refine ze ?_ | refine zb ?_ _)); exact BK277.out⟩, ⟨zH83⟩⟩
 case rest =>
  clear HC3
  try clear c1
  try clear c5
  try clear c5b0
  try clear c5b1
  obtain ⟨kq, x14_2, rfl, HA, HJ2, BK277, HB⟩ := hcut
  cases kq with
  | zero => exact absurd HA.out (by simp [spec_BestSource.j0])
  | succ kj2 =>
   have H := HA.out
   clear HA
   simp only [spec_BestSource.j0] at H
   by_cases c6 : x14_2 = true
   ·subst c6
    have H1 : (some (([] : List Int), 0, 0, 2)) = some (r1, r2, r3, r4) := by rw [if_pos rfl] at H; exact H
    clear H
    have H := H1
    clear H1
    simp only [Option.some.injEq, Prod.mk.injEq] at H
    obtain ⟨rfl, rfl, rfl, rfl⟩ := H
    obtain ⟨hcz7_0, hcz7_1, hcz7_2, hfz7_0, hfz7_1, hfz7_2⟩ := zB3 BK277.out
    go_wp2
    refine bodyPost_ret (results_ct rfl _ _ gb277 52 #[.slice none 0 0, .int .i64 0, .int .i64 0] (0, 0) _ rfl zK135 Try.underlying52 rfl zG106) rfl ?_
    exact zH12
   replace c6 := Bool.eq_false_iff.mpr c6
   subst c6
   have H1 : ((spec_SourcesOK.f kj2 l0 l1).bind fun t278 => (if t278 = true then ((spec_l23Search_try.f kj2 l0 l1 ([] : List Int) 0 0 false (([] : List Int))).bind fun bt283 => (if bt283.2.2.2 = true then (some (bt283.1, bt283.2.1, bt283.2.2.1, 0)) else (some (([] : List Int), 0, 0, 8)))) else (some (([] : List Int), 0, 0, 1)))) = some (r1, r2, r3, r4) := by rw [if_neg (show ¬ (false = true) by decide)] at H; exact H
   clear H
   have H := H1
   clear H1
   replace H := Option.bind_eq_some_iff.mp H
   obtain ⟨t278, A80, H⟩ := H
   replace H : (if t278 = true then ((spec_l23Search_try.f kj2 l0 l1 ([] : List Int) 0 0 false (([] : List Int))).bind fun bt283 => (if bt283.2.2.2 = true then (some (bt283.1, bt283.2.1, bt283.2.2.1, 0)) else (some (([] : List Int), 0, 0, 8)))) else (some (([] : List Int), 0, 0, 1))) = some (r1, r2, r3, r4) := H
   have A8 := za A80
   clear A80
   by_cases c9 : t278 = true
   rotate_left
   ·replace c9 := Bool.eq_false_iff.mpr c9
    subst c9
    have H1 : (some (([] : List Int), 0, 0, 1)) = some (r1, r2, r3, r4) := by rw [if_neg (show ¬ (false = true) by decide)] at H; exact H
    clear H
    have H := H1
    clear H1
    simp only [Option.some.injEq, Prod.mk.injEq] at H
    obtain ⟨rfl, rfl, rfl, rfl⟩ := H
    go_wp2_with (first | ((with_reducible refine gate_callee (f := 90) rfl ?_); refine goesL_ (some 18) rfl rfl Try.func90 zG106 rfl #[.slice A0 l0.length c0, .slice A1 l1.length c1] rfl zG80 ?_; (with_reducible refine (spec_SourcesOK.calls kj2 _ _ l0 _ _ l1 false _ ?side1 ?side2 ?side3 ?side4 A8.out).mono ?_); (case side1 => exact zH75); (case side2 => exact zH128); (case side3 => exact zH76); (case side4 => exact zH129); rintro e w31 ⟨rfl, hb⟩; refine ⟨_, rfl, ?_⟩; have n_ := zA_ (za (zo (g := gb277) (o := .cells #[.slice none 0 0, .int .i64 0, .int .i64 0] 52 (0, 0)) zG93 hb)) (za (zq zK200 hb)); clear BK277 HB; obtain ⟨BK277, HB⟩ := n_; (try clear hb); obtain ⟨hcz32_0, hcz32_1, hcz32_2, hfz32_0, hfz32_1, hfz32_2⟩ := zB3 BK277.out))
    refine bodyPost_ret (results_ct rfl _ _ gb277 52 #[.slice none 0 0, .int .i64 0, .int .i64 0] (0, 0) _ rfl zK135 Try.underlying52 rfl zG106) rfl ?_
    exact zH12

   subst c9
   have H1 : ((spec_l23Search_try.f kj2 l0 l1 ([] : List Int) 0 0 false (([] : List Int))).bind fun bt283 => (if bt283.2.2.2 = true then (some (bt283.1, bt283.2.1, bt283.2.2.1, 0)) else (some (([] : List Int), 0, 0, 8)))) = some (r1, r2, r3, r4) := by rw [if_pos rfl] at H; exact H
   clear H
   have H := H1
   clear H1
   obtain ⟨y280, hy280⟩ : ∃ y_ : List Int, y_ = (([] : List Int)) := ⟨_, rfl⟩
   replace H : ((spec_l23Search_try.f kj2 l0 l1 ([] : List Int) 0 0 false y280).bind fun bt283 => (if bt283.2.2.2 = true then (some (bt283.1, bt283.2.1, bt283.2.2.1, 0)) else (some (([] : List Int), 0, 0, 8)))) = some (r1, r2, r3, r4) := by first | (rw [hy280]; with_reducible exact H) | (have H2_ := (Option.bind_some _ _).symm.trans H; rw [hy280]; with_reducible exact H2_) | (have H2_ := (Option.bind_some _ _).symm.trans H; with_reducible exact H2_) | with_reducible exact H | (rw [hy280]; exact H) | exact H
   have Ny280 := za hy280
   clear hy280
   replace H := Option.bind_eq_some_iff.mp H
   obtain ⟨⟨t283, t286, t287, t288⟩, A100, H⟩ := H
   replace H : (if t288 = true then (some (t283, t286, t287, 0)) else (some (([] : List Int), 0, 0, 8))) = some (r1, r2, r3, r4) := H
   have A10 := za A100
   clear A100
   by_cases c11 : t288 = true
   ·subst c11
    have H1 : (some (t283, t286, t287, 0)) = some (r1, r2, r3, r4) := by rw [if_pos rfl] at H; exact H
    clear H
    have H := H1
    clear H1
    simp only [Option.some.injEq, Prod.mk.injEq] at H
    obtain ⟨rfl, rfl, rfl, rfl⟩ := H
    go_wp2_with (first | ((with_reducible refine gate_callee (f := 90) rfl ?_); refine goesL_ (some 18) rfl rfl Try.func90 zG106 rfl #[.slice A0 l0.length c0, .slice A1 l1.length c1] rfl zG80 ?_; (with_reducible refine (spec_SourcesOK.calls kj2 _ _ l0 _ _ l1 true _ ?side1 ?side2 ?side3 ?side4 A8.out).mono ?_); (case side1 => exact zH75); (case side2 => exact zH128); (case side3 => exact zH76); (case side4 => exact zH129); rintro e w12 ⟨rfl, hb⟩; refine ⟨_, rfl, ?_⟩; have n_ := zA_ (za (zo (g := gb277) (o := .cells #[.slice none 0 0, .int .i64 0, .int .i64 0] 52 (0, 0)) zG93 hb)) (za (zq zK200 hb)); clear BK277 HB; obtain ⟨BK277, HB⟩ := n_; (try clear hb); (try clear hk)) | ((with_reducible refine gate_dst (N := 24) rfl ?_); (try (refine gate_guard (by rfl) ?_; dsimp only)); refine box_event ?hg (N := 24) ?hd (cs := #[.slice A0 l0.length c0, .slice A1 l1.length c1, .slice none 0 0, .int .i64 0, .int .i64 0, .bool false]) (t := 136) ?hr ?_; (case hd => rfl); (case hg => rfl); (case hr => exact zH124); intro gb279 hg w13 hbox hb; have n_ := zA_ (za (zo (g := gb277) (o := .cells #[.slice none 0 0, .int .i64 0, .int .i64 0] 52 (0, 0)) zG93 hb)) (zA_ (za (zq zK200 hb)) (zA_ (za (hbox)) (zA_ (zN1 w.heap.size hg (zp zK200)) (zA_ (zN1 w.heap.size hg (zp zK200)) (zN2 hg (zz (g := gb277) (o := .cells #[.slice none 0 0, .int .i64 0, .int .i64 0] 52 (0, 0)) zG93)))))); clear BK277 HB; obtain ⟨BK277, HB, BK279, GW279, GE279, NB277_279, NB279_277⟩ := n_; clear hb hbox hg) | ((with_reducible refine gate_dst (N := 26) rfl ?_); (try (refine gate_guard (by rfl) ?_; dsimp only)); refine zbm (Kd.int .i64) _ 3 ?hg (N := 26) ?hd (xs := ([] : List Int)) (inner := []) (ok := fun _ => True) (okp := fun _ => True) ?hr ?hp (fun _ hk => hk) trivial (Below.refl _ _) (Nat.le_refl _) (by simp) ?_; (case hd => rfl); (case hg => rfl); (case hr => exact zH124); (case hp => exact (Reps.none _ _)); intro v281 w14 ho15 hb hg_ hnew_; clear hg_ hnew_; (first | rw [← Ny280.out] at ho15 | (simp only [Int.reduceToNat] at ho15; rw [← Ny280.out] at ho15)); have n_ := zA_ (za (zah ho15 (zp zK189))) (zA_ (za (zo (g := gb277) (o := .cells #[.slice none 0 0, .int .i64 0, .int .i64 0] 52 (0, 0)) zG93 hb)) (zA_ (za (zo (g := gb279) (o := .cells #[.slice A0 l0.length c0, .slice A1 l1.length c1, .slice none 0 0, .int .i64 0, .int .i64 0, .bool false] 136 (0, 0)) (by (with_reducible repeat (first | refine zc ?_ _ | refine ze ?_ | refine zb ?_ _)); exact BK279.out) hb)) (za (zq zK189 hb)))); clear BK277 BK279 HB; obtain ⟨HO282, BK277, BK279, HB⟩ := n_; clear hb ho15; obtain ⟨Ao16, co16, eo16⟩ := zaf HO282.out; subst eo16) | ((with_reducible refine gate_callee (f := 91) rfl ?_); refine goesL_ (some 27) rfl rfl Try.func91 zG106 rfl #[.pointer (some ⟨gb279, 0, none⟩), .slice Ao16 y280.length co16] rfl zG80 ?_; (refine (spec_l23Search_try.calls kj2 gb279 A0 c0 l0 A1 c1 l1 (fun k_ => some k_ = (.slice none 0 0 : Value).ownBlock) (.slice none 0 0) ([] : List Int) 0 0 false _ _ y280 t283 t286 t287 true w _ ?side1 ?side2 ?side3 ?side4 ?side5 ?side6 ?side7 ?side8 ?side9 ?side10 A10.out).mono ?_); (case side1 => exact zH61); (case side2 => exact zH99); (case side3 => exact GE279.out); (case side4 => exact zH15); (case side5 => exact zH128); (case side6 => exact zH14); (case side7 => exact zH129); (case side8 => exact zat _ _ _ _ _); (case side9 => exact zH49); (case side10 => exact (Kd.R_reads' HO282.out).2.1); rintro e w17 ⟨v284, rfl, ho0, hz0, hb, hkp⟩; refine ⟨_, rfl, ?_⟩; have n_ := zA_ (za (zaq zG93 hkp (fun hs_ => Or.elim hs_ (fun hs_ => (fun e_ => by simp [Value.ownBlock] at e_) hs_) (fun e_ => NB277_279.out e_)))) (zA_ (za (hz0)) (zA_ (za (zx (ok' := fun k_ => some k_ ≠ (v284 : Value).ownBlock) (zau ((zaa HO282.out BK279.out zG107)) hkp (fun k_ hk_ hs_ => Or.elim hs_ (fun hs_ => (fun e_ => by simp [Value.ownBlock] at e_) hs_) (fun e_ => (hk_.2) e_))) (fun k_ hk_ => fun e_ => Or.elim (ho0.1 k_ e_.symm) (fun hs_ => hk_.2.1 (Or.inl hs_)) (fun hn_ => Nat.not_le.2 hk_.2.2 hn_)))) (zA_ (za (zx (ok' := fun k_ => some k_ ≠ (.slice Ao16 y280.length co16 : Value).ownBlock) ho0 (fun k_ hk_ => Or.elim hk_ (fun hs_ => absurd hs_ (by simp [Value.ownBlock])) (fun hn_ => (Kd.fresh' (zak (by (with_reducible repeat (first | apply zl | apply zm | apply zn)); exact HO282.out)) k_ hn_))))) (za (hb))))); clear BK277 BK279 HO282 HB; obtain ⟨BK277, BK279, HO282, HO285, HB⟩ := n_; (try clear hb); (try clear hkp); (try clear ho0); (try clear hz0); have hnb18 := NB279_277.out; have hnc18 := NB277_279.out; obtain ⟨hcz19_0, hcz19_1, hcz19_2, hcz19_3, hcz19_4, hcz19_5, hfz19_0, hfz19_1, hfz19_2, hfz19_3, hfz19_4, hfz19_5⟩ := zB6 BK279.out; obtain ⟨Ao20, co20, eo20⟩ := zaf HO285.out; subst eo20; obtain ⟨hcz21_0, hcz21_1, hcz21_2, hfz21_0, hfz21_1, hfz21_2⟩ := zB3 BK277.out))
    refine bodyPost_ret (results_ct rfl _ _ gb277 52 #[.slice Ao20 t283.length co20, .int .i64 t286, .int .i64 t287] (0, 0) _ rfl (by (with_reducible repeat (first | refine zc ?_ _ | refine ze ?_ | refine zb ?_ _)); refine zw (cs := #[.slice Ao20 t283.length co20, .int .i64 t286, .int .i64 0]) ?_ 2 _ rfl; (with_reducible repeat (first | refine zc ?_ _ | refine ze ?_ | refine zb ?_ _)); refine zw (cs := #[.slice Ao20 t283.length co20, .int .i64 0, .int .i64 0]) ?_ 1 _ rfl; (with_reducible repeat (first | refine zc ?_ _ | refine ze ?_ | refine zb ?_ _)); refine zw (cs := #[.slice none 0 0, .int .i64 0, .int .i64 0]) ?_ 0 _ rfl; (with_reducible repeat (first | refine zc ?_ _ | refine ze ?_ | refine zb ?_ _)); exact BK277.out) Try.underlying52 rfl zG106) rfl ?_
    exact ⟨_, zH115, by (with_reducible repeat (first | apply zl | apply zm | apply zn)); exact zx (zr (p := ⟨gb277, 2, none⟩) (zr (p := ⟨gb277, 1, none⟩) (zr (p := ⟨gb277, 0, none⟩) (zaa HO285.out BK277.out zG107) (fun _ hk => hk.2) (.slice Ao20 t283.length co20)) (fun _ hk => hk.2) (.int .i64 t286)) (fun _ hk => hk.2) (.int .i64 t287)) (fun _ hk => trivial), zH50⟩
   replace c11 := Bool.eq_false_iff.mpr c11
   subst c11
   have H1 : (some (([] : List Int), 0, 0, 8)) = some (r1, r2, r3, r4) := by rw [if_neg (show ¬ (false = true) by decide)] at H; exact H
   clear H
   have H := H1
   clear H1
   simp only [Option.some.injEq, Prod.mk.injEq] at H
   obtain ⟨rfl, rfl, rfl, rfl⟩ := H
   go_wp2_with (first | ((with_reducible refine gate_callee (f := 90) rfl ?_); refine goesL_ (some 18) rfl rfl Try.func90 zG106 rfl #[.slice A0 l0.length c0, .slice A1 l1.length c1] rfl zG80 ?_; (with_reducible refine (spec_SourcesOK.calls kj2 _ _ l0 _ _ l1 true _ ?side1 ?side2 ?side3 ?side4 A8.out).mono ?_); (case side1 => exact zH75); (case side2 => exact zH128); (case side3 => exact zH76); (case side4 => exact zH129); rintro e w22 ⟨rfl, hb⟩; refine ⟨_, rfl, ?_⟩; have n_ := zA_ (za (zo (g := gb277) (o := .cells #[.slice none 0 0, .int .i64 0, .int .i64 0] 52 (0, 0)) zG93 hb)) (za (zq zK200 hb)); clear BK277 HB; obtain ⟨BK277, HB⟩ := n_; (try clear hb); (try clear hk)) | ((with_reducible refine gate_dst (N := 24) rfl ?_); (try (refine gate_guard (by rfl) ?_; dsimp only)); refine box_event ?hg (N := 24) ?hd (cs := #[.slice A0 l0.length c0, .slice A1 l1.length c1, .slice none 0 0, .int .i64 0, .int .i64 0, .bool false]) (t := 136) ?hr ?_; (case hd => rfl); (case hg => rfl); (case hr => exact zH124); intro gb279 hg w23 hbox hb; have n_ := zA_ (za (zo (g := gb277) (o := .cells #[.slice none 0 0, .int .i64 0, .int .i64 0] 52 (0, 0)) zG93 hb)) (zA_ (za (zq zK200 hb)) (zA_ (za (hbox)) (zA_ (zN1 w.heap.size hg (zp zK200)) (zA_ (zN1 w.heap.size hg (zp zK200)) (zN2 hg (zz (g := gb277) (o := .cells #[.slice none 0 0, .int .i64 0, .int .i64 0] 52 (0, 0)) zG93)))))); clear BK277 HB; obtain ⟨BK277, HB, BK279, GW279, GE279, NB277_279, NB279_277⟩ := n_; clear hb hbox hg) | ((with_reducible refine gate_dst (N := 26) rfl ?_); (try (refine gate_guard (by rfl) ?_; dsimp only)); refine zbm (Kd.int .i64) _ 3 ?hg (N := 26) ?hd (xs := ([] : List Int)) (inner := []) (ok := fun _ => True) (okp := fun _ => True) ?hr ?hp (fun _ hk => hk) trivial (Below.refl _ _) (Nat.le_refl _) (by simp) ?_; (case hd => rfl); (case hg => rfl); (case hr => exact zH124); (case hp => exact (Reps.none _ _)); intro v281 w24 ho25 hb hg_ hnew_; clear hg_ hnew_; (first | rw [← Ny280.out] at ho25 | (simp only [Int.reduceToNat] at ho25; rw [← Ny280.out] at ho25)); have n_ := zA_ (za (zah ho25 (zp zK189))) (zA_ (za (zo (g := gb277) (o := .cells #[.slice none 0 0, .int .i64 0, .int .i64 0] 52 (0, 0)) zG93 hb)) (zA_ (za (zo (g := gb279) (o := .cells #[.slice A0 l0.length c0, .slice A1 l1.length c1, .slice none 0 0, .int .i64 0, .int .i64 0, .bool false] 136 (0, 0)) (by (with_reducible repeat (first | refine zc ?_ _ | refine ze ?_ | refine zb ?_ _)); exact BK279.out) hb)) (za (zq zK189 hb)))); clear BK277 BK279 HB; obtain ⟨HO282, BK277, BK279, HB⟩ := n_; clear hb ho25; obtain ⟨Ao26, co26, eo26⟩ := zaf HO282.out; subst eo26) | ((with_reducible refine gate_callee (f := 91) rfl ?_); refine goesL_ (some 27) rfl rfl Try.func91 zG106 rfl #[.pointer (some ⟨gb279, 0, none⟩), .slice Ao26 y280.length co26] rfl zG80 ?_; (refine (spec_l23Search_try.calls kj2 gb279 A0 c0 l0 A1 c1 l1 (fun k_ => some k_ = (.slice none 0 0 : Value).ownBlock) (.slice none 0 0) ([] : List Int) 0 0 false _ _ y280 t283 t286 t287 false w _ ?side1 ?side2 ?side3 ?side4 ?side5 ?side6 ?side7 ?side8 ?side9 ?side10 A10.out).mono ?_); (case side1 => exact zH61); (case side2 => exact zH99); (case side3 => exact GE279.out); (case side4 => exact zH15); (case side5 => exact zH128); (case side6 => exact zH14); (case side7 => exact zH129); (case side8 => exact zat _ _ _ _ _); (case side9 => exact zH49); (case side10 => exact (Kd.R_reads' HO282.out).2.1); rintro e w27 ⟨v284, rfl, ho0, hz0, hb, hkp⟩; refine ⟨_, rfl, ?_⟩; have n_ := zA_ (za (zaq zG93 hkp (fun hs_ => Or.elim hs_ (fun hs_ => (fun e_ => by simp [Value.ownBlock] at e_) hs_) (fun e_ => NB277_279.out e_)))) (zA_ (za (hz0)) (zA_ (za (zx (ok' := fun k_ => some k_ ≠ (v284 : Value).ownBlock) (zau ((zaa HO282.out BK279.out zG107)) hkp (fun k_ hk_ hs_ => Or.elim hs_ (fun hs_ => (fun e_ => by simp [Value.ownBlock] at e_) hs_) (fun e_ => (hk_.2) e_))) (fun k_ hk_ => fun e_ => Or.elim (ho0.1 k_ e_.symm) (fun hs_ => hk_.2.1 (Or.inl hs_)) (fun hn_ => Nat.not_le.2 hk_.2.2 hn_)))) (zA_ (za (zx (ok' := fun k_ => some k_ ≠ (.slice Ao26 y280.length co26 : Value).ownBlock) ho0 (fun k_ hk_ => Or.elim hk_ (fun hs_ => absurd hs_ (by simp [Value.ownBlock])) (fun hn_ => (Kd.fresh' (zak (by (with_reducible repeat (first | apply zl | apply zm | apply zn)); exact HO282.out)) k_ hn_))))) (za (hb))))); clear BK277 BK279 HO282 HB; obtain ⟨BK277, BK279, HO282, HO285, HB⟩ := n_; (try clear hb); (try clear hkp); (try clear ho0); (try clear hz0); have hnb28 := NB279_277.out; have hnc28 := NB277_279.out; obtain ⟨hcz29_0, hcz29_1, hcz29_2, hcz29_3, hcz29_4, hcz29_5, hfz29_0, hfz29_1, hfz29_2, hfz29_3, hfz29_4, hfz29_5⟩ := zB6 BK279.out; obtain ⟨hcz30_0, hcz30_1, hcz30_2, hfz30_0, hfz30_1, hfz30_2⟩ := zB3 BK277.out))
   refine bodyPost_ret (results_ct rfl _ _ gb277 52 #[.slice none 0 0, .int .i64 0, .int .i64 0] (0, 0) _ rfl zK135 Try.underlying52 rfl zG106) rfl ?_
   exact ⟨_, zH115, zH90, zH50⟩
/-! ### laws_szStocked: function 103 -/
def laws_szStocked.f (a0_0 : ByteArray) (a0_1 : Int) (a1 : Int) : Option (Int) := if (wrap64 (a1 - (a0_0.size : Int))) < 0 then (some (-1)) else (some (wrap64 (a1 - (a0_0.size : Int))))
set_option maxHeartbeats 64000000 in
set_option maxRecDepth 100000 in
theorem laws_szStocked.calls (a0_0 : ByteArray) (a0_1 : Int) (a1 : Int) (r : Int) (w : World) (h : laws_szStocked.f a0_0 a0_1 a1 = some r) :
  Calls Try.prog 103 #[.agg #[.string a0_0, .int .i64 a0_1], .int .i64 a1] w fun e w' => e = .returned (.int .i64 r) ∧ Below w.heap.size w w' := by
 have hu153 := Try.underlying153
 have HB := za (Below.refl w.heap.size w)
 have H : (if (wrap64 (a1 - (a0_0.size : Int))) < 0 then (some (-1)) else (some (wrap64 (a1 - (a0_0.size : Int))))) = some r := h
 clear h
 by_cases c3 : (wrap64 (a1 - (a0_0.size : Int))) < 0
 ·rw [if_pos c3] at H
  have c3b0 := decide_eq_true c3
  clear c3
  obtain rfl := Option.some.inj H
  go_enter Try.func103, Try.ntmps103
  go_wp2_with (first | ((with_reducible refine gate_dst (N := 2) rfl ?_); refine box_event ?hg (N := 2) ?hd (cs := #[.string a0_0, .int .i64 a0_1]) (t := 153) ?hr ?_; (case hd => rfl); (case hg => rfl); (case hr => exact zH124); intro gb289 hg w4 hbox hb; have n_ := zA_ (za (zq zG85 hb)) (zA_ (za (hbox)) (zA_ (zN1 w.heap.size hg (zp zG85)) (zN1 w.heap.size hg (zp zG85)))); clear HB; obtain ⟨HB, BK289, GW289, GE289⟩ := n_; clear hb hbox hg; obtain ⟨hcz5_0, hcz5_1, hfz5_0, hfz5_1⟩ := zB2 BK289.out))
  go_ret
  exact zH33
 rw [if_neg c3] at H
 have c3b0 := decide_eq_false c3
 clear c3
 obtain rfl := Option.some.inj H
 go_enter Try.func103, Try.ntmps103
 go_wp2_with (first | ((with_reducible refine gate_dst (N := 2) rfl ?_); refine box_event ?hg (N := 2) ?hd (cs := #[.string a0_0, .int .i64 a0_1]) (t := 153) ?hr ?_; (case hd => rfl); (case hg => rfl); (case hr => exact zH124); intro gb289 hg w6 hbox hb; have n_ := zA_ (za (zq zG85 hb)) (zA_ (za (hbox)) (zA_ (zN1 w.heap.size hg (zp zG85)) (zN1 w.heap.size hg (zp zG85)))); clear HB; obtain ⟨HB, BK289, GW289, GE289⟩ := n_; clear hb hbox hg; obtain ⟨hcz7_0, hcz7_1, hfz7_0, hfz7_1⟩ := zB2 BK289.out))
 go_ret
 exact zH33

/-! ### laws_szStockedS: function 34 -/
def laws_szStockedS.l0 : Nat → List (S153) → Int → Int → Option (Int)
 | 0, _, _, _ => none
 | k + 1, x0, x1, x5 => if x5 < (x0.length : Int) then (if 0 ≤ x5 then ((laws_szStocked.f ((rd_T153 x0 x5).f0) ((rd_T153 x0 x5).f1) x1).bind fun t291 => (if t291 < 0 then (some (-1)) else (laws_szStockedS.l0 k x0 t291 (wrap64 (x5 + 1))))) else (none)) else (some x1)
def laws_szStockedS.f (k : Nat) (l0 : List (S153)) (a1 : Int) : Option (Int) := if (wrap64 (a1 - (l0.length : Int))) < 0 then (some (-1)) else (laws_szStockedS.l0 k l0 (wrap64 (a1 - (l0.length : Int))) 0)
theorem laws_szStockedS.mono_l : ∀ k, (∀ y0 y1 y2, LeO (laws_szStockedS.l0 k y0 y1 y2) (laws_szStockedS.l0 (k + 1) y0 y1 y2))
 | 0 => fun _ _ _ r h => by simp [laws_szStockedS.l0] at h
 | k + 1 => by
  have ih0 := laws_szStockedS.mono_l k
  ·intro y0 y1 y2
   unfold laws_szStockedS.l0
   repeat' first
   | (with_reducible exact ih0 _ _ _)
   | (with_reducible exact LeO.refl _)
   | (with_reducible exact LeO.none _)
   | (with_reducible refine LeO.ite ?_ ?_)
   | (with_reducible refine LeO.bind ?_ (fun _ => ?_))
   | exact ih0 _ _ _
   | exact LeO.none _
   | refine LeO.ite ?_ ?_
   | refine LeO.bind ?_ (fun _ => ?_)
theorem laws_szStockedS.mono : ∀ a0 a1 k, LeO (laws_szStockedS.f k a0 a1) (laws_szStockedS.f (k + 1) a0 a1) := by
 intro a0 a1 k
 have ih0 := laws_szStockedS.mono_l k
 unfold laws_szStockedS.f
 repeat' first
   | (with_reducible exact ih0 _ _ _)
   | (with_reducible exact LeO.refl _)
   | (with_reducible exact LeO.none _)
   | (with_reducible refine LeO.ite ?_ ?_)
   | (with_reducible refine LeO.bind ?_ (fun _ => ?_))
   | exact ih0 _ _ _
   | exact LeO.none _
   | refine LeO.ite ?_ ?_
   | refine LeO.bind ?_ (fun _ => ?_)
set_option maxHeartbeats 64000000 in
set_option maxRecDepth 100000 in
theorem laws_szStockedS.calls (k : Nat) (A0 : Option Addr) (c0 : Nat) (l0 : List (S153)) (a1 : Int) (r : Int) (w : World) (hr0 : Kd.C k153 w A0 l0.length l0) (hc0 : l0.length ≤ c0) (h : laws_szStockedS.f k l0 a1 = some r) :
  Calls Try.prog 34 #[.slice A0 l0.length c0, .int .i64 a1] w fun e w' => e = .returned (.int .i64 r) ∧ Below w.heap.size w w' := by
 have hu153 := Try.underlying153
 obtain ⟨HR0, HC0, HB⟩ := zD3 hr0 hc0 (Below.refl w.heap.size w)
 clear hr0 hc0
 have H : (if (wrap64 (a1 - (l0.length : Int))) < 0 then (some (-1)) else (laws_szStockedS.l0 k l0 (wrap64 (a1 - (l0.length : Int))) 0)) = some r := h
 clear h
 by_cases c3 : (wrap64 (a1 - (l0.length : Int))) < 0
 ·rw [if_pos c3] at H
  have c3b0 := decide_eq_true c3
  clear c3
  obtain rfl := Option.some.inj H
  go_enter Try.func34, Try.ntmps34
  go_wp2
  go_ret
  exact zH43
 rw [if_neg c3] at H
 have c3b0 := decide_eq_false c3
 clear c3
 have H' := za H
 clear H
 go_enter Try.func34, Try.ntmps34
 go_wp2
 go_loopg [1, 5] k (fun kq v1 v5 w' => ∃ (x1_1 : Int) (x5_1 : Int), v1 = .int .i64 x1_1 ∧ v5 = .int .i64 x5_1 ∧ Aside0 (laws_szStockedS.l0 kq l0 x1_1 x5_1 = some r) ∧ Aside0 (kq ≤ k) ∧ Aside0 (Below w.heap.size w w'))
 case atStart => exact ⟨(wrap64 (a1 - (l0.length : Int))), (0), zG105, zG105, H', ⟨Nat.le_refl _⟩, ⟨zH104⟩⟩
 case round =>
  clear H'
  try clear c3
  try clear c3b0
  obtain ⟨x1_1, x5_1, rfl, rfl, HA, HK1, HB⟩ := hrel
  cases gk with
  | zero => exact absurd HA.out (by simp [laws_szStockedS.l0])
  | succ k1 =>
   have H := HA.out
   clear HA
   simp only [laws_szStockedS.l0] at H
   by_cases c4 : x5_1 < (l0.length : Int)
   rotate_left
   ·rw [if_neg c4] at H
    have c4b0 := decide_eq_false c4
    clear c4
    obtain rfl := Option.some.inj H
    go_wp2
    go_ret
    exact zH43

   rw [if_pos c4] at H
   have c4b0 := decide_eq_true c4
   clear c4
   by_cases c5 : 0 ≤ x5_1
   rotate_left
   ·rw [if_neg c5] at H
    exact absurd H (by simp)
   rw [if_pos c5] at H
   have c5b0 := decide_eq_true c5
   clear c5
   replace H := Option.bind_eq_some_iff.mp H
   obtain ⟨t291, A60, H⟩ := H
   replace H : (if t291 < 0 then (some (-1)) else (laws_szStockedS.l0 k1 l0 t291 (wrap64 (x5_1 + 1)))) = some r := H
   have A6 := za A60
   clear A60
   by_cases c7 : t291 < 0
   ·rw [if_pos c7] at H
    have c7b0 := decide_eq_true c7
    clear c7
    obtain rfl := Option.some.inj H
    have p290 : 0 ≤ (x5_1 : Int) := zO
    have q290 : x5_1 < (l0.length : Int) := zO
    obtain ⟨ad290, e290, hx290_0, hx290_1⟩ := at_T153 HR0.out x5_1 p290 q290
    cases e290
    replace hx290_0 := (HB.out.cell (zj w _ hx290_0)).trans hx290_0
    replace hx290_1 := (HB.out.cell (zj w _ hx290_1)).trans hx290_1
    replace p290 := eq_true p290
    replace q290 := eq_true q290
    go_wp2_with (first | ((with_reducible refine gate_callee (f := 103) rfl ?_); refine goesL_ (some 23) rfl rfl Try.func103 zG106 rfl #[.agg #[.string ((rd_T153 l0 x5_1).f0), .int .i64 ((rd_T153 l0 x5_1).f1)], .int .i64 x1_1] rfl zG80 ?_; (with_reducible refine (laws_szStocked.calls ((rd_T153 l0 x5_1).f0) ((rd_T153 l0 x5_1).f1) x1_1 t291 _ A6.out).mono ?_); rintro e w8 ⟨rfl, hb⟩; refine ⟨_, rfl, ?_⟩; replace HB := za (zq zG85 hb); (try clear hb)))
    go_ret
    exact zH43
   rw [if_neg c7] at H
   have c7b0 := decide_eq_false c7
   clear c7
   have H' := za H
   clear H
   have p290 : 0 ≤ (x5_1 : Int) := zO
   have q290 : x5_1 < (l0.length : Int) := zO
   obtain ⟨ad290, e290, hx290_0, hx290_1⟩ := at_T153 HR0.out x5_1 p290 q290
   cases e290
   replace hx290_0 := (HB.out.cell (zj w _ hx290_0)).trans hx290_0
   replace hx290_1 := (HB.out.cell (zj w _ hx290_1)).trans hx290_1
   replace p290 := eq_true p290
   replace q290 := eq_true q290
   go_wp2_with (first | ((with_reducible refine gate_callee (f := 103) rfl ?_); refine goesL_ (some 23) rfl rfl Try.func103 zG106 rfl #[.agg #[.string ((rd_T153 l0 x5_1).f0), .int .i64 ((rd_T153 l0 x5_1).f1)], .int .i64 x1_1] rfl zG80 ?_; (with_reducible refine (laws_szStocked.calls ((rd_T153 l0 x5_1).f0) ((rd_T153 l0 x5_1).f1) x1_1 t291 _ A6.out).mono ?_); rintro e w9 ⟨rfl, hb⟩; refine ⟨_, rfl, ?_⟩; replace HB := za (zq zG85 hb); (try clear hb)))
   go_roundg k1
   case measure => have := HK1.out; omega
   case rel => exact ⟨(t291), (wrap64 (x5_1 + 1)), zG105, zG105, H', ⟨zH127⟩, ⟨zH104⟩⟩
/-! ### laws_szSource: function 102 -/
def laws_szSource.f (k : Nat) (a0_0 : ByteArray) (a0_1 : Int) (l0_2 : List (S153)) (a1 : Int) : Option (Int) := if (wrap64 (a1 - (a0_0.size : Int))) < 0 then (some (-1)) else ((laws_szStockedS.f k l0_2 (wrap64 (a1 - (a0_0.size : Int)))).bind fun t293 => (if t293 < 0 then (some (-1)) else (some t293)))
theorem laws_szSource.mono : ∀ a0 a1 a2 a3 k, LeO (laws_szSource.f k a0 a1 a2 a3) (laws_szSource.f (k + 1) a0 a1 a2 a3) := by
 intro a0 a1 a2 a3 k
 unfold laws_szSource.f
 repeat' first
   | (with_reducible exact laws_szStockedS.mono _ _ _)
   | (with_reducible exact LeO.refl _)
   | (with_reducible exact LeO.none _)
   | (with_reducible refine LeO.ite ?_ ?_)
   | (with_reducible refine LeO.bind ?_ (fun _ => ?_))
   | exact laws_szStockedS.mono _ _ _
   | exact LeO.none _
   | refine LeO.ite ?_ ?_
   | refine LeO.bind ?_ (fun _ => ?_)
set_option maxHeartbeats 64000000 in
set_option maxRecDepth 100000 in
theorem laws_szSource.calls (k : Nat) (a0_0 : ByteArray) (a0_1 : Int) (A0_2 : Option Addr) (c0_2 : Nat) (l0_2 : List (S153)) (a1 : Int) (r : Int) (w : World) (hr0_2 : Kd.C k153 w A0_2 l0_2.length l0_2) (hc0_2 : l0_2.length ≤ c0_2) (h : laws_szSource.f k a0_0 a0_1 l0_2 a1 = some r) :
  Calls Try.prog 102 #[.agg #[.string a0_0, .int .i64 a0_1, .slice A0_2 l0_2.length c0_2], .int .i64 a1] w fun e w' => e = .returned (.int .i64 r) ∧ Below w.heap.size w w' := by
 have hu151 := Try.underlying151
 obtain ⟨HR0_2, HC0_2, HB⟩ := zD3 hr0_2 hc0_2 (Below.refl w.heap.size w)
 clear hr0_2 hc0_2
 have H : (if (wrap64 (a1 - (a0_0.size : Int))) < 0 then (some (-1)) else ((laws_szStockedS.f k l0_2 (wrap64 (a1 - (a0_0.size : Int)))).bind fun t293 => (if t293 < 0 then (some (-1)) else (some t293)))) = some r := h
 clear h
 by_cases c3 : (wrap64 (a1 - (a0_0.size : Int))) < 0
 ·rw [if_pos c3] at H
  have c3b0 := decide_eq_true c3
  clear c3
  obtain rfl := Option.some.inj H
  go_enter Try.func102, Try.ntmps102
  go_wp2_with (first | ((with_reducible refine gate_dst (N := 2) rfl ?_); refine box_event ?hg (N := 2) ?hd (cs := #[.string a0_0, .int .i64 a0_1, .slice A0_2 l0_2.length c0_2]) (t := 151) ?hr ?_; (case hd => rfl); (case hg => rfl); (case hr => exact zH124); intro gb292 hg w4 hbox hb; have n_ := zA_ (za (zq zG85 hb)) (zA_ (za (hbox)) (zA_ (zN1 w.heap.size hg (zp zG85)) (zN1 w.heap.size hg (zp zG85)))); clear HB; obtain ⟨HB, BK292, GW292, GE292⟩ := n_; clear hb hbox hg; obtain ⟨hcz5_0, hcz5_1, hcz5_2, hfz5_0, hfz5_1, hfz5_2⟩ := zB3 BK292.out))
  go_ret
  exact zH36
 rw [if_neg c3] at H
 have c3b0 := decide_eq_false c3
 clear c3
 replace H := Option.bind_eq_some_iff.mp H
 obtain ⟨t293, A60, H⟩ := H
 replace H : (if t293 < 0 then (some (-1)) else (some t293)) = some r := H
 have A6 := za A60
 clear A60
 by_cases c7 : t293 < 0
 ·rw [if_pos c7] at H
  have c7b0 := decide_eq_true c7
  clear c7
  obtain rfl := Option.some.inj H
  go_enter Try.func102, Try.ntmps102
  go_wp2_with (first | ((with_reducible refine gate_dst (N := 2) rfl ?_); refine box_event ?hg (N := 2) ?hd (cs := #[.string a0_0, .int .i64 a0_1, .slice A0_2 l0_2.length c0_2]) (t := 151) ?hr ?_; (case hd => rfl); (case hg => rfl); (case hr => exact zH124); intro gb292 hg w8 hbox hb; have n_ := zA_ (za (zq zG85 hb)) (zA_ (za (hbox)) (zA_ (zN1 w.heap.size hg (zp zG85)) (zN1 w.heap.size hg (zp zG85)))); clear HB; obtain ⟨HB, BK292, GW292, GE292⟩ := n_; clear hb hbox hg; obtain ⟨hcz9_0, hcz9_1, hcz9_2, hfz9_0, hfz9_1, hfz9_2⟩ := zB3 BK292.out) | ((with_reducible refine gate_callee (f := 34) rfl ?_); refine goesL_ (some 15) rfl rfl Try.func34 zG106 rfl #[.slice A0_2 l0_2.length c0_2, .int .i64 (wrap64 (a1 - (a0_0.size : Int)))] rfl zG80 ?_; (with_reducible refine (laws_szStockedS.calls k _ _ l0_2 (wrap64 (a1 - (a0_0.size : Int))) t293 _ ?side1 ?side2 A6.out).mono ?_); (case side1 => exact zH73); (case side2 => exact HC0_2.out); rintro e w10 ⟨rfl, hb⟩; refine ⟨_, rfl, ?_⟩; have n_ := zA_ (za (zo (g := gb292) (o := .cells #[.string a0_0, .int .i64 a0_1, .slice A0_2 l0_2.length c0_2] 151 (0, 0)) (by (with_reducible repeat (first | refine zc ?_ _ | refine ze ?_ | refine zb ?_ _)); exact BK292.out) hb)) (za (zq zK201 hb)); clear BK292 HB; obtain ⟨BK292, HB⟩ := n_; (try clear hb)))
  go_ret
  exact zH36
 rw [if_neg c7] at H
 have c7b0 := decide_eq_false c7
 clear c7
 obtain rfl := Option.some.inj H
 go_enter Try.func102, Try.ntmps102
 go_wp2_with (first | ((with_reducible refine gate_dst (N := 2) rfl ?_); refine box_event ?hg (N := 2) ?hd (cs := #[.string a0_0, .int .i64 a0_1, .slice A0_2 l0_2.length c0_2]) (t := 151) ?hr ?_; (case hd => rfl); (case hg => rfl); (case hr => exact zH124); intro gb292 hg w11 hbox hb; have n_ := zA_ (za (zq zG85 hb)) (zA_ (za (hbox)) (zA_ (zN1 w.heap.size hg (zp zG85)) (zN1 w.heap.size hg (zp zG85)))); clear HB; obtain ⟨HB, BK292, GW292, GE292⟩ := n_; clear hb hbox hg; obtain ⟨hcz12_0, hcz12_1, hcz12_2, hfz12_0, hfz12_1, hfz12_2⟩ := zB3 BK292.out) | ((with_reducible refine gate_callee (f := 34) rfl ?_); refine goesL_ (some 15) rfl rfl Try.func34 zG106 rfl #[.slice A0_2 l0_2.length c0_2, .int .i64 (wrap64 (a1 - (a0_0.size : Int)))] rfl zG80 ?_; (with_reducible refine (laws_szStockedS.calls k _ _ l0_2 (wrap64 (a1 - (a0_0.size : Int))) t293 _ ?side1 ?side2 A6.out).mono ?_); (case side1 => exact zH73); (case side2 => exact HC0_2.out); rintro e w13 ⟨rfl, hb⟩; refine ⟨_, rfl, ?_⟩; have n_ := zA_ (za (zo (g := gb292) (o := .cells #[.string a0_0, .int .i64 a0_1, .slice A0_2 l0_2.length c0_2] 151 (0, 0)) (by (with_reducible repeat (first | refine zc ?_ _ | refine ze ?_ | refine zb ?_ _)); exact BK292.out) hb)) (za (zq zK201 hb)); clear BK292 HB; obtain ⟨BK292, HB⟩ := n_; (try clear hb)))
 go_ret
 exact zH36

/-! ### laws_szSourceS: function 33 -/
def laws_szSourceS.l0 : Nat → List (S151) → Int → Int → Option (Int)
 | 0, _, _, _ => none
 | k + 1, x0, x1, x5 => if x5 < (x0.length : Int) then (if 0 ≤ x5 then ((laws_szSource.f k ((rd_T151 x0 x5).f0) ((rd_T151 x0 x5).f1) ((rd_T151 x0 x5).f2) x1).bind fun t295 => (if t295 < 0 then (some (-1)) else (laws_szSourceS.l0 k x0 t295 (wrap64 (x5 + 1))))) else (none)) else (some x1)
def laws_szSourceS.f (k : Nat) (l0 : List (S151)) (a1 : Int) : Option (Int) := if (wrap64 (a1 - (l0.length : Int))) < 0 then (some (-1)) else (laws_szSourceS.l0 k l0 (wrap64 (a1 - (l0.length : Int))) 0)
theorem laws_szSourceS.mono_l : ∀ k, (∀ y0 y1 y2, LeO (laws_szSourceS.l0 k y0 y1 y2) (laws_szSourceS.l0 (k + 1) y0 y1 y2))
 | 0 => fun _ _ _ r h => by simp [laws_szSourceS.l0] at h
 | k + 1 => by
  have ih0 := laws_szSourceS.mono_l k
  ·intro y0 y1 y2
   unfold laws_szSourceS.l0
   repeat' first
   | (with_reducible exact ih0 _ _ _)
   | (with_reducible exact laws_szSource.mono _ _ _ _ _)
   | (with_reducible exact LeO.refl _)
   | (with_reducible exact LeO.none _)
   | (with_reducible refine LeO.ite ?_ ?_)
   | (with_reducible refine LeO.bind ?_ (fun _ => ?_))
   | exact ih0 _ _ _
   | exact laws_szSource.mono _ _ _ _ _
   | exact LeO.none _
   | refine LeO.ite ?_ ?_
   | refine LeO.bind ?_ (fun _ => ?_)
theorem laws_szSourceS.mono : ∀ a0 a1 k, LeO (laws_szSourceS.f k a0 a1) (laws_szSourceS.f (k + 1) a0 a1) := by
 intro a0 a1 k
 have ih0 := laws_szSourceS.mono_l k
 unfold laws_szSourceS.f
 repeat' first
   | (with_reducible exact ih0 _ _ _)
   | (with_reducible exact laws_szSource.mono _ _ _ _ _)
   | (with_reducible exact LeO.refl _)
   | (with_reducible exact LeO.none _)
   | (with_reducible refine LeO.ite ?_ ?_)
   | (with_reducible refine LeO.bind ?_ (fun _ => ?_))
   | exact ih0 _ _ _
   | exact laws_szSource.mono _ _ _ _ _
   | exact LeO.none _
   | refine LeO.ite ?_ ?_
   | refine LeO.bind ?_ (fun _ => ?_)
set_option maxHeartbeats 64000000 in
set_option maxRecDepth 100000 in
theorem laws_szSourceS.calls (k : Nat) (A0 : Option Addr) (c0 : Nat) (l0 : List (S151)) (a1 : Int) (r : Int) (w : World) (hr0 : Kd.C k151 w A0 l0.length l0) (hc0 : l0.length ≤ c0) (h : laws_szSourceS.f k l0 a1 = some r) :
  Calls Try.prog 33 #[.slice A0 l0.length c0, .int .i64 a1] w fun e w' => e = .returned (.int .i64 r) ∧ Below w.heap.size w w' := by
 have hu151 := Try.underlying151
 obtain ⟨HR0, HC0, HB⟩ := zD3 hr0 hc0 (Below.refl w.heap.size w)
 clear hr0 hc0
 have H : (if (wrap64 (a1 - (l0.length : Int))) < 0 then (some (-1)) else (laws_szSourceS.l0 k l0 (wrap64 (a1 - (l0.length : Int))) 0)) = some r := h
 clear h
 by_cases c3 : (wrap64 (a1 - (l0.length : Int))) < 0
 ·rw [if_pos c3] at H
  have c3b0 := decide_eq_true c3
  clear c3
  obtain rfl := Option.some.inj H
  go_enter Try.func33, Try.ntmps33
  go_wp2
  go_ret
  exact zH43
 rw [if_neg c3] at H
 have c3b0 := decide_eq_false c3
 clear c3
 have H' := za H
 clear H
 go_enter Try.func33, Try.ntmps33
 go_wp2
 go_loopg [1, 5] k (fun kq v1 v5 w' => ∃ (x1_1 : Int) (x5_1 : Int), v1 = .int .i64 x1_1 ∧ v5 = .int .i64 x5_1 ∧ Aside0 (laws_szSourceS.l0 kq l0 x1_1 x5_1 = some r) ∧ Aside0 (kq ≤ k) ∧ Aside0 (Below w.heap.size w w'))
 case atStart => exact ⟨(wrap64 (a1 - (l0.length : Int))), (0), zG105, zG105, H', ⟨Nat.le_refl _⟩, ⟨zH104⟩⟩
 case round =>
  clear H'
  try clear c3
  try clear c3b0
  obtain ⟨x1_1, x5_1, rfl, rfl, HA, HK1, HB⟩ := hrel
  cases gk with
  | zero => exact absurd HA.out (by simp [laws_szSourceS.l0])
  | succ k1 =>
   have H := HA.out
   clear HA
   simp only [laws_szSourceS.l0] at H
   by_cases c4 : x5_1 < (l0.length : Int)
   rotate_left
   ·rw [if_neg c4] at H
    have c4b0 := decide_eq_false c4
    clear c4
    obtain rfl := Option.some.inj H
    go_wp2
    go_ret
    exact zH43

   rw [if_pos c4] at H
   have c4b0 := decide_eq_true c4
   clear c4
   by_cases c5 : 0 ≤ x5_1
   rotate_left
   ·rw [if_neg c5] at H
    exact absurd H (by simp)
   rw [if_pos c5] at H
   have c5b0 := decide_eq_true c5
   clear c5
   replace H := Option.bind_eq_some_iff.mp H
   obtain ⟨t295, A60, H⟩ := H
   replace H : (if t295 < 0 then (some (-1)) else (laws_szSourceS.l0 k1 l0 t295 (wrap64 (x5_1 + 1)))) = some r := H
   have A6 := za A60
   clear A60
   by_cases c7 : t295 < 0
   ·rw [if_pos c7] at H
    have c7b0 := decide_eq_true c7
    clear c7
    obtain rfl := Option.some.inj H
    have p294 : 0 ≤ (x5_1 : Int) := zO
    have q294 : x5_1 < (l0.length : Int) := zO
    obtain ⟨ad294, A294_2, c294_2, e294, hx294_0, hx294_1, hx294_2, hl294_2, hi294_2⟩ := at_T151 HR0.out x5_1 p294 q294
    cases e294
    replace hx294_0 := (HB.out.cell (zj w _ hx294_0)).trans hx294_0
    replace hx294_1 := (HB.out.cell (zj w _ hx294_1)).trans hx294_1
    replace hx294_2 := (HB.out.cell (zj w _ hx294_2)).trans hx294_2
    obtain ⟨HR294_2, HC294_2⟩ := zD2 hi294_2 hl294_2
    clear hi294_2 hl294_2
    replace p294 := eq_true p294
    replace q294 := eq_true q294
    go_wp2_with (first | ((with_reducible refine gate_callee (f := 102) rfl ?_); refine goesL_ (some 23) rfl rfl Try.func102 zG106 rfl #[.agg #[.string ((rd_T151 l0 x5_1).f0), .int .i64 ((rd_T151 l0 x5_1).f1), .slice A294_2 ((rd_T151 l0 x5_1).f2).length c294_2], .int .i64 x1_1] rfl zG80 ?_; (with_reducible refine (laws_szSource.calls k1 ((rd_T151 l0 x5_1).f0) ((rd_T151 l0 x5_1).f1) _ _ ((rd_T151 l0 x5_1).f2) x1_1 t295 _ ?side1 ?side2 A6.out).mono ?_); (case side1 => exact zH65); (case side2 => exact HC294_2.out); rintro e w8 ⟨rfl, hb⟩; refine ⟨_, rfl, ?_⟩; replace HB := za (zq zG85 hb); (try clear hb)))
    go_ret
    exact zH43
   rw [if_neg c7] at H
   have c7b0 := decide_eq_false c7
   clear c7
   have H' := za H
   clear H
   have p294 : 0 ≤ (x5_1 : Int) := zO
   have q294 : x5_1 < (l0.length : Int) := zO
   obtain ⟨ad294, A294_2, c294_2, e294, hx294_0, hx294_1, hx294_2, hl294_2, hi294_2⟩ := at_T151 HR0.out x5_1 p294 q294
   cases e294
   replace hx294_0 := (HB.out.cell (zj w _ hx294_0)).trans hx294_0
   replace hx294_1 := (HB.out.cell (zj w _ hx294_1)).trans hx294_1
   replace hx294_2 := (HB.out.cell (zj w _ hx294_2)).trans hx294_2
   obtain ⟨HR294_2, HC294_2⟩ := zD2 hi294_2 hl294_2
   clear hi294_2 hl294_2
   replace p294 := eq_true p294
   replace q294 := eq_true q294
   go_wp2_with (first | ((with_reducible refine gate_callee (f := 102) rfl ?_); refine goesL_ (some 23) rfl rfl Try.func102 zG106 rfl #[.agg #[.string ((rd_T151 l0 x5_1).f0), .int .i64 ((rd_T151 l0 x5_1).f1), .slice A294_2 ((rd_T151 l0 x5_1).f2).length c294_2], .int .i64 x1_1] rfl zG80 ?_; (with_reducible refine (laws_szSource.calls k1 ((rd_T151 l0 x5_1).f0) ((rd_T151 l0 x5_1).f1) _ _ ((rd_T151 l0 x5_1).f2) x1_1 t295 _ ?side1 ?side2 A6.out).mono ?_); (case side1 => exact zH65); (case side2 => exact HC294_2.out); rintro e w9 ⟨rfl, hb⟩; refine ⟨_, rfl, ?_⟩; replace HB := za (zq zG85 hb); (try clear hb)))
   go_roundg k1
   case measure => have := HK1.out; omega
   case rel => exact ⟨(t295), (wrap64 (x5_1 + 1)), zG105, zG105, H', ⟨zH127⟩, ⟨zH104⟩⟩
/-! ### laws_toStocked: function 105 -/
def laws_toStocked.f (a0_0 : ByteArray) (a0_1 : Int) : Option (ByteArray × Int) := some (a0_0, a0_1)
set_option maxHeartbeats 64000000 in
set_option maxRecDepth 100000 in
theorem laws_toStocked.calls (a0_0 : ByteArray) (a0_1 : Int) (r1 : ByteArray) (r2 : Int) (w : World) (h : laws_toStocked.f a0_0 a0_1 = some (r1, r2)) :
  Calls Try.prog 105 #[.agg #[.string a0_0, .int .i64 a0_1]] w fun e w' => e = .returned (.agg #[.string r1, .int .i64 r2]) ∧ Below w.heap.size w w' := by
 have hu153 := Try.underlying153
 have hu124 := Try.underlying124
 have HB := za (Below.refl w.heap.size w)
 have H : (some (a0_0, a0_1)) = some (r1, r2) := h
 clear h
 simp only [Option.some.injEq, Prod.mk.injEq] at H
 obtain ⟨rfl, rfl⟩ := H
 go_enter Try.func105, Try.ntmps105
 go_wp2_with (first | ((with_reducible refine gate_dst (N := 1) rfl ?_); refine box_event ?hg (N := 1) ?hd (cs := #[.string a0_0, .int .i64 a0_1]) (t := 153) ?hr ?_; (case hd => rfl); (case hg => rfl); (case hr => exact zH124); intro gb296 hg w2 hbox hb; have n_ := zA_ (za (zq zG85 hb)) (zA_ (za (hbox)) (zA_ (zN1 w.heap.size hg (zp zG85)) (zN1 w.heap.size hg (zp zG85)))); clear HB; obtain ⟨HB, BK296, GW296, GE296⟩ := n_; clear hb hbox hg) | ((with_reducible refine gate_dst (N := 2) rfl ?_); refine box_event ?hg (N := 2) ?hd (cs := #[.string (⟨#[]⟩ : ByteArray), .int .i64 0]) (t := 124) ?hr ?_; (case hd => rfl); (case hg => rfl); (case hr => exact zH124); intro gb297 hg w3 hbox hb; have n_ := zA_ (za (zo (g := gb296) (o := .cells #[.string a0_0, .int .i64 a0_1] 153 (0, 0)) zK220 hb)) (zA_ (za (zq zK202 hb)) (zA_ (za (hbox)) (zA_ (zN1 w.heap.size hg (zp zK202)) (zA_ (zN1 w.heap.size hg (zp zK202)) (zN2 hg (zz (g := gb296) (o := .cells #[.string a0_0, .int .i64 a0_1] 153 (0, 0)) zK220)))))); clear BK296 HB; obtain ⟨BK296, HB, BK297, GW297, GE297, NB296_297, NB297_296⟩ := n_; clear hb hbox hg) | ((with_reducible refine gate_dst (N := 3) rfl ?_); refine box_event ?hg (N := 3) ?hd (cs := #[.string (⟨#[]⟩ : ByteArray), .int .i64 0]) (t := 124) ?hr ?_; (case hd => rfl); (case hg => rfl); (case hr => exact zH124); intro gb298 hg w4 hbox hb; have n_ := zA_ (za (zo (g := gb296) (o := .cells #[.string a0_0, .int .i64 a0_1] 153 (0, 0)) zK220 hb)) (zA_ (za (zo (g := gb297) (o := .cells #[.string (⟨#[]⟩ : ByteArray), .int .i64 0] 124 (0, 0)) zK221 hb)) (zA_ (za (zq zK190 hb)) (zA_ (za (hbox)) (zA_ (zN1 w.heap.size hg (zp zK190)) (zA_ (zN1 w.heap.size hg (zp zK190)) (zN3 hg (zz (g := gb296) (o := .cells #[.string a0_0, .int .i64 a0_1] 153 (0, 0)) zK220) (zN2 hg (zz (g := gb297) (o := .cells #[.string (⟨#[]⟩ : ByteArray), .int .i64 0] 124 (0, 0)) zK221)))))))); clear BK296 BK297 HB; obtain ⟨BK296, BK297, HB, BK298, GW298, GE298, NB296_298, NB298_296, NB297_298, NB298_297⟩ := n_; clear hb hbox hg; have hnb5 := NB296_297.out; have hnc5 := NB297_296.out; have hnb6 := NB296_298.out; have hnc6 := NB298_296.out; obtain ⟨hcz7_0, hcz7_1, hfz7_0, hfz7_1⟩ := zB2 BK296.out; have hnb8 := NB298_297.out; have hnc8 := NB297_298.out; obtain ⟨hcz9_0, hcz9_1, hfz9_0, hfz9_1⟩ := zB2 BK298.out; obtain ⟨hcz10_0, hcz10_1, hfz10_0, hfz10_1⟩ := zB2 BK297.out))
 refine bodyPost_ret (results_cell_row rfl _ _ gb297 124 #[.string a0_0, .int .i64 a0_1] (0, 0) _ rfl (by (with_reducible repeat (first | refine zc ?_ _ | refine ze ?_ | refine zb ?_ _)); refine zw (cs := #[.string a0_0, .int .i64 0]) ?_ 1 _ rfl; (with_reducible repeat (first | refine zc ?_ _ | refine ze ?_ | refine zb ?_ _)); refine zw (cs := #[.string (⟨#[]⟩ : ByteArray), .int .i64 0]) ?_ 0 _ rfl; (with_reducible repeat (first | refine zc ?_ _ | refine ze ?_ | refine zb ?_ _)); refine zs ?_ NB297_298.out _; (with_reducible repeat (first | refine zc ?_ _ | refine ze ?_ | refine zb ?_ _)); refine zs ?_ NB297_298.out _; (with_reducible repeat (first | refine zc ?_ _ | refine ze ?_ | refine zb ?_ _)); exact BK297.out) Try.underlying124 rfl zG106) rfl ?_
 exact ⟨zH115, by repeat (first | (with_reducible first | exact HB.out | apply zh | apply zd | apply zg | refine zf ?_ GE296.out | refine zf ?_ GE297.out | refine zf ?_ GE298.out) | exact HB.out)⟩

/-! ### laws_toStockedS: function 36 -/
def laws_toStockedS.l0 : Nat → List (S153) → List (S124) → Int → Option ((List (S124)))
 | 0, _, _, _ => none
 | k + 1, x0, x3, x4 => if x4 < (x0.length : Int) then (if 0 ≤ x4 then ((laws_toStocked.f ((rd_T153 x0 x4).f0) ((rd_T153 x0 x4).f1)).bind fun bt303 => (if x4 < (x3.length : Int) then (laws_toStockedS.l0 k x0 (x3.set (x4 : Int).toNat (⟨bt303.1, bt303.2⟩ : S124)) (wrap64 (x4 + 1))) else (none))) else (none)) else (some x3)
def laws_toStockedS.f (k : Nat) (l0 : List (S153)) : Option ((List (S124))) := if 0 ≤ (l0.length : Int) then (if ((l0.length : Int) : Int).toNat ≤ 11728124029610 then (laws_toStockedS.l0 k l0 (List.replicate ((l0.length : Int) : Int).toNat z124) 0) else (none)) else (none)
theorem laws_toStockedS.mono_l : ∀ k, (∀ y0 y1 y2, LeO (laws_toStockedS.l0 k y0 y1 y2) (laws_toStockedS.l0 (k + 1) y0 y1 y2))
 | 0 => fun _ _ _ r h => by simp [laws_toStockedS.l0] at h
 | k + 1 => by
  have ih0 := laws_toStockedS.mono_l k
  ·intro y0 y1 y2
   unfold laws_toStockedS.l0
   repeat' first
   | (with_reducible exact ih0 _ _ _)
   | (with_reducible exact LeO.refl _)
   | (with_reducible exact LeO.none _)
   | (with_reducible refine LeO.ite ?_ ?_)
   | (with_reducible refine LeO.bind ?_ (fun _ => ?_))
   | exact ih0 _ _ _
   | exact LeO.none _
   | refine LeO.ite ?_ ?_
   | refine LeO.bind ?_ (fun _ => ?_)
theorem laws_toStockedS.mono : ∀ a0 k, LeO (laws_toStockedS.f k a0) (laws_toStockedS.f (k + 1) a0) := by
 intro a0 k
 have ih0 := laws_toStockedS.mono_l k
 unfold laws_toStockedS.f
 repeat' first
   | (with_reducible exact ih0 _ _ _)
   | (with_reducible exact LeO.refl _)
   | (with_reducible exact LeO.none _)
   | (with_reducible refine LeO.ite ?_ ?_)
   | (with_reducible refine LeO.bind ?_ (fun _ => ?_))
   | exact ih0 _ _ _
   | exact LeO.none _
   | refine LeO.ite ?_ ?_
   | refine LeO.bind ?_ (fun _ => ?_)
set_option maxHeartbeats 64000000 in
set_option maxRecDepth 100000 in
theorem laws_toStockedS.calls (k : Nat) (A0 : Option Addr) (c0 : Nat) (l0 : List (S153)) (r : List (S124)) (w : World) (hr0 : Kd.C k153 w A0 l0.length l0) (hc0 : l0.length ≤ c0) (h : laws_toStockedS.f k l0 = some r) :
  Calls Try.prog 36 #[.slice A0 l0.length c0] w fun e w' => ∃ v0_ : Value, e = .returned (v0_) ∧ Kd.R k124 124 w' w.heap.size (fun _ => True) v0_ r ∧ Below w.heap.size w w' := by
 have hu153 := Try.underlying153
 have hu124 := Try.underlying124
 obtain ⟨HR0, HC0, HB⟩ := zD3 hr0 hc0 (Below.refl w.heap.size w)
 clear hr0 hc0
 have H : (if 0 ≤ (l0.length : Int) then (if ((l0.length : Int) : Int).toNat ≤ 11728124029610 then (laws_toStockedS.l0 k l0 (List.replicate ((l0.length : Int) : Int).toNat z124) 0) else (none)) else (none)) = some r := h
 clear h
 by_cases c2 : 0 ≤ (l0.length : Int)
 rotate_left
 ·rw [if_neg c2] at H
  exact absurd H (by simp)

 rw [if_pos c2] at H
 have c2b0 := eq_true c2
 have c2b1 := decide_eq_true c2
 clear c2
 by_cases c3 : ((l0.length : Int) : Int).toNat ≤ 11728124029610
 rotate_left
 ·rw [if_neg c3] at H
  exact absurd H (by simp)
 rw [if_pos c3] at H
 have c3b0 := eq_true c3
 have c3b1 := decide_eq_true c3
 clear c3
 obtain ⟨y299, hy299⟩ : ∃ y_ : List (S124), y_ = (List.replicate ((l0.length : Int) : Int).toNat z124) := ⟨_, rfl⟩
 replace H : (laws_toStockedS.l0 k l0 y299 0) = some r := by first | (rw [hy299]; with_reducible exact H) | (have H2_ := (Option.bind_some _ _).symm.trans H; rw [hy299]; with_reducible exact H2_) | (have H2_ := (Option.bind_some _ _).symm.trans H; with_reducible exact H2_) | with_reducible exact H | (rw [hy299]; exact H) | exact H
 have Ny299 := za hy299
 clear hy299
 have H' := za H
 clear H
 go_enter Try.func36, Try.ntmps36
 go_wp2_with (first | ((with_reducible refine gate_dst (N := 7) rfl ?_); refine Kd.R_make k124 _ 124 rfl (N := 7) rfl 48 _ _ rfl (l0.length : Int) rfl rfl Try.underlying48 (.agg #[(.string ⟨#[]⟩), (.int .i64 0)]) 24 info124 rfl zG107 (by omega) z124 (ok := fun _ => True) (okp := fun _ => True) (k124_mkM _ _ _ z124 ) (fun _ hk => hk) trivial zO (Nat.le_trans (Nat.mul_le_mul_right _ (zO : (l0.length : Int).toNat ≤ 11728124029610)) (by omega)) (Below.refl _ _) (Nat.le_refl _) ?_; intro v300 w4 ho5 hb hg_ hnew_; clear hg_ hnew_; (first | rw [← Ny299.out] at ho5 | (simp only [Int.reduceToNat] at ho5; rw [← Ny299.out] at ho5)); have n_ := zA_ (za (zah ho5 (zp zG85))) (za (zq zG85 hb)); clear HB; obtain ⟨HO301, HB⟩ := n_; clear hb ho5))
 go_loopg [4] k (fun kq v4 w' => ∃ (x3_1 : List (S124)) (x4_1 : Int), v4 = .int .i64 x4_1 ∧ Aside0 (laws_toStockedS.l0 kq l0 x3_1 x4_1 = some r) ∧ Aside0 (kq ≤ k) ∧ Aside0 (Kd.R k124 124 w' w.heap.size (fun _ => True) v300 x3_1) ∧ Aside0 (Below w.heap.size w w'))
 case atStart => exact ⟨(y299), (0), zG105, H', ⟨Nat.le_refl _⟩, ⟨by (with_reducible repeat (first | apply zl | apply zm | apply zn)); exact HO301.out⟩, ⟨zH104⟩⟩
 case round =>
  clear H'
  try clear c2
  try clear c2b0
  try clear c2b1
  try clear c3
  try clear c3b0
  try clear c3b1
  obtain ⟨x3_1, x4_1, rfl, HA, HK1, HO_3, HB⟩ := hrel
  cases gk with
  | zero => exact absurd HA.out (by simp [laws_toStockedS.l0])
  | succ k1 =>
   have H := HA.out
   clear HA
   simp only [laws_toStockedS.l0] at H
   by_cases c6 : x4_1 < (l0.length : Int)
   rotate_left
   ·rw [if_neg c6] at H
    have c6b0 := decide_eq_false c6
    clear c6
    obtain rfl := Option.some.inj H
    go_wp2
    go_ret
    exact ⟨_, zH115, by (with_reducible repeat (first | apply zl | apply zm | apply zn)); exact HO_3.out, zH104⟩
   rw [if_pos c6] at H
   have c6b0 := decide_eq_true c6
   clear c6
   by_cases c7 : 0 ≤ x4_1
   rotate_left
   ·rw [if_neg c7] at H
    exact absurd H (by simp)
   rw [if_pos c7] at H
   have c7b0 := decide_eq_true c7
   clear c7
   replace H := Option.bind_eq_some_iff.mp H
   obtain ⟨⟨t303, t304⟩, A80, H⟩ := H
   replace H : (if x4_1 < (x3_1.length : Int) then (laws_toStockedS.l0 k1 l0 (x3_1.set (x4_1 : Int).toNat (⟨t303, t304⟩ : S124)) (wrap64 (x4_1 + 1))) else (none)) = some r := H
   have A8 := za A80
   clear A80
   by_cases c9 : x4_1 < (x3_1.length : Int)
   rotate_left
   ·rw [if_neg c9] at H
    exact absurd H (by simp)
   rw [if_pos c9] at H
   have c9b0 := decide_eq_true c9
   clear c9
   obtain ⟨y305, hy305⟩ : ∃ y_ : List (S124), y_ = (x3_1.set (x4_1 : Int).toNat (⟨t303, t304⟩ : S124)) := ⟨_, rfl⟩
   replace H : (laws_toStockedS.l0 k1 l0 y305 (wrap64 (x4_1 + 1))) = some r := by first | (rw [hy305]; with_reducible exact H) | (have H2_ := (Option.bind_some _ _).symm.trans H; rw [hy305]; with_reducible exact H2_) | (have H2_ := (Option.bind_some _ _).symm.trans H; with_reducible exact H2_) | with_reducible exact H | (rw [hy305]; exact H) | exact H
   have Ny305 := za hy305
   clear hy305
   have H' := za H
   clear H
   have p302 : 0 ≤ (x4_1 : Int) := zO
   have q302 : x4_1 < (l0.length : Int) := zO
   obtain ⟨ad302, e302, hx302_0, hx302_1⟩ := at_T153 HR0.out x4_1 p302 q302
   cases e302
   replace hx302_0 := (HB.out.cell (zj w _ hx302_0)).trans hx302_0
   replace hx302_1 := (HB.out.cell (zj w _ hx302_1)).trans hx302_1
   replace p302 := eq_true p302
   replace q302 := eq_true q302
   go_wp2_with (first | ((with_reducible refine gate_callee (f := 105) rfl ?_); refine goesL_ (some 20) rfl rfl Try.func105 zG106 rfl #[.agg #[.string ((rd_T153 l0 x4_1).f0), .int .i64 ((rd_T153 l0 x4_1).f1)]] rfl zG80 ?_; (with_reducible refine (laws_toStocked.calls ((rd_T153 l0 x4_1).f0) ((rd_T153 l0 x4_1).f1) t303 t304 _ A8.out).mono ?_); rintro e w11 ⟨rfl, hb⟩; refine ⟨_, rfl, ?_⟩; have n_ := zA_ (za (zt (by (with_reducible repeat (first | apply zl | apply zm | apply zn)); exact HO_3.out) hb)) (za (zq zG85 hb)); clear HO_3 HB; obtain ⟨HO_3, HB⟩ := n_; (try clear hb); (try clear hk); have p10 : 0 ≤ (x4_1 : Int) := zO; have q10 : (x4_1 : Int) < ((x3_1.length : Int) : Int) := zO; obtain ⟨go10, co10, eo10, gb10, gl10, cl10, HG10⟩ := Kd.R_form HO_3.out (by omega); (first | cases eo10 | (injection eo10 with ea_ en_ ec_; (first | subst ea_ | (injection ea_ with ea_; subst ea_)); subst ec_; clear en_)); have GB10 := za gb10; have GG10 := za HG10; clear gb10 gl10 HG10; obtain ⟨ce10, hcl10, hM10, hcc10, hfr10⟩ := zbk HO_3.out z124 (x4_1 : Int) p10 q10; obtain rfl := k124_openM hM10; have hx10_0 : w11.cell? ⟨go10, (x4_1 : Int).toNat * 2, none⟩ = some (.string ((rd_T124 x3_1 x4_1).f0)) := hcc10 0 _ rfl; have hx10_1 : w11.cell? ⟨go10, (x4_1 : Int).toNat * 2 + 1, none⟩ = some (.int .i64 ((rd_T124 x3_1 x4_1).f1)) := hcc10 1 _ rfl; have hf10_0 : w11.frozen? ⟨go10, (x4_1 : Int).toNat * 2, none⟩ = false := hfr10 0; have hf10_1 : w11.frozen? ⟨go10, (x4_1 : Int).toNat * 2 + 1, none⟩ = false := hfr10 1; clear hcl10 hcc10 hfr10 hM10; replace p10 := eq_true p10; replace q10 := eq_true q10; have HX12 := za (show Kd.R k124 124 w11 w.heap.size (fun _ => True) (.slice (some ⟨go10, 0, none⟩) x3_1.length co10) x3_1 from (by (with_reducible repeat (first | apply zl | apply zm | apply zn)); exact HO_3.out)); obtain ⟨ce12, hcl12, hM12, hcc12, hfr12⟩ := zbk HX12.out z124 (x4_1 : Int) zO (by have h_ : (x4_1 : Int) < ((x3_1.length : Int) : Int) := zO; first | exact h_ | (have e_ := (Kd.R_reads' HO_3.out).1; omega) | simpa using h_); obtain rfl := k124_openM hM12; have HP12 := Kd.R_seg HX12.out (x4_1 : Int) zO (by have h_ : (x4_1 : Int) < ((x3_1.length : Int) : Int) := zO; first | exact h_ | (have e_ := (Kd.R_reads' HO_3.out).1; omega) | simpa using h_) (seg := [.string t303, .int .i64 t304]) (j := 0) hcl12 hcc12 (show 2 ≤ 2 from by decide) (x' := (⟨t303, t304⟩ : S124)) (k124_mkM _ _ _ (⟨t303, t304⟩ : S124) ) (fun _ hk => hk); have hx12_0 := hcc12 0 _ rfl; (try simp only [show (k124).sz = 2 from rfl, Nat.mul_one, Nat.add_zero] at hx12_0); have hf12_0 := hfr12 0; (try simp only [show (k124).sz = 2 from rfl, Nat.mul_one, Nat.add_zero] at hf12_0); have hx12_1 := hcc12 1 _ rfl; (try simp only [show (k124).sz = 2 from rfl, Nat.mul_one, Nat.add_zero] at hx12_1); have hf12_1 := hfr12 1; (try simp only [show (k124).sz = 2 from rfl, Nat.mul_one, Nat.add_zero] at hf12_1); clear hcl12 hcc12 hfr12 hM12) | ((with_reducible refine gate_store (t := 124) (p := 21) rfl ?_); refine store_event (t := 124) (p := 21) (v := ?vo_w13) (w1 := ((w11.setCell ⟨go10, (x4_1 : Int).toNat * 2, none⟩ (.string t303)).setCell ⟨go10, (x4_1 : Int).toNat * 2 + 1, none⟩ (.int .i64 t304))) ?hg ?ho ?hn ?hr ?_; (case ho => rfl); (case hg => rfl); (case hn => rfl); (case hr => exact zH124); intro w13 hw; have hg : w11.grownBy w13 (some go10) := (by rw [hw]; exact HP12.2); have hp_ : Kd.R k124 124 w13 w.heap.size (fun _ => True) (.slice (some ⟨go10, 0, none⟩) x3_1.length co10) y305 := (by rw [hw, Ny305.out]; exact HP12.1); clear HP12; have n_ := zA_ (za (hp_)) (za ((by rw [hw]; exact zf (zf (HB.out) GB10.out) GB10.out : Below w.heap.size w w13))); clear HO_3 HB; obtain ⟨HO_3, HB⟩ := n_; clear hg hw hp_))
   go_roundg k1
   case measure => have := HK1.out; omega
   case rel => exact ⟨(y305), (wrap64 (x4_1 + 1)), zG105, H', ⟨zH127⟩, ⟨by (with_reducible repeat (first | apply zl | apply zm | apply zn)); exact HO_3.out⟩, ⟨zH104⟩⟩
/-! ### laws_toSource: function 104 -/
def laws_toSource.f (k : Nat) (a0_0 : ByteArray) (a0_1 : Int) (l0_2 : List (S153)) : Option (ByteArray × Int × (List (S124))) := (laws_toStockedS.f k l0_2).bind fun t309 => (some (a0_0, a0_1, t309))
theorem laws_toSource.mono : ∀ a0 a1 a2 k, LeO (laws_toSource.f k a0 a1 a2) (laws_toSource.f (k + 1) a0 a1 a2) := by
 intro a0 a1 a2 k
 unfold laws_toSource.f
 repeat' first
   | (with_reducible exact laws_toStockedS.mono _ _)
   | (with_reducible exact LeO.refl _)
   | (with_reducible exact LeO.none _)
   | (with_reducible refine LeO.ite ?_ ?_)
   | (with_reducible refine LeO.bind ?_ (fun _ => ?_))
   | exact laws_toStockedS.mono _ _
   | exact LeO.none _
   | refine LeO.ite ?_ ?_
   | refine LeO.bind ?_ (fun _ => ?_)
set_option maxHeartbeats 64000000 in
set_option maxRecDepth 100000 in
theorem laws_toSource.calls (k : Nat) (a0_0 : ByteArray) (a0_1 : Int) (A0_2 : Option Addr) (c0_2 : Nat) (l0_2 : List (S153)) (r1 : ByteArray) (r2 : Int) (r3 : List (S124)) (w : World) (hr0_2 : Kd.C k153 w A0_2 l0_2.length l0_2) (hc0_2 : l0_2.length ≤ c0_2) (h : laws_toSource.f k a0_0 a0_1 l0_2 = some (r1, r2, r3)) :
  Calls Try.prog 104 #[.agg #[.string a0_0, .int .i64 a0_1, .slice A0_2 l0_2.length c0_2]] w fun e w' => ∃ v2_ : Value, e = .returned (.agg #[.string r1, .int .i64 r2, v2_]) ∧ Kd.R k124 124 w' w.heap.size (fun _ => True) v2_ r3 ∧ Below w.heap.size w w' := by
 have hu151 := Try.underlying151
 have hu58 := Try.underlying58
 obtain ⟨HR0_2, HC0_2, HB⟩ := zD3 hr0_2 hc0_2 (Below.refl w.heap.size w)
 clear hr0_2 hc0_2
 have H : ((laws_toStockedS.f k l0_2).bind fun t309 => (some (a0_0, a0_1, t309))) = some (r1, r2, r3) := h
 clear h
 replace H := Option.bind_eq_some_iff.mp H
 obtain ⟨t309, A20, H⟩ := H
 replace H : (some (a0_0, a0_1, t309)) = some (r1, r2, r3) := H
 have A2 := za A20
 clear A20
 simp only [Option.some.injEq, Prod.mk.injEq] at H
 obtain ⟨rfl, rfl, rfl⟩ := H
 go_enter Try.func104, Try.ntmps104
 go_wp2_with (first | ((with_reducible refine gate_dst (N := 1) rfl ?_); refine box_event ?hg (N := 1) ?hd (cs := #[.string a0_0, .int .i64 a0_1, .slice A0_2 l0_2.length c0_2]) (t := 151) ?hr ?_; (case hd => rfl); (case hg => rfl); (case hr => exact zH124); intro gb306 hg w3 hbox hb; have n_ := zA_ (za (zq zG85 hb)) (zA_ (za (hbox)) (zA_ (zN1 w.heap.size hg (zp zG85)) (zN1 w.heap.size hg (zp zG85)))); clear HB; obtain ⟨HB, BK306, GW306, GE306⟩ := n_; clear hb hbox hg) | ((with_reducible refine gate_dst (N := 2) rfl ?_); refine box_event ?hg (N := 2) ?hd (cs := #[.string (⟨#[]⟩ : ByteArray), .int .i64 0, .slice none 0 0]) (t := 58) ?hr ?_; (case hd => rfl); (case hg => rfl); (case hr => exact zH124); intro gb307 hg w4 hbox hb; have n_ := zA_ (za (zo (g := gb306) (o := .cells #[.string a0_0, .int .i64 a0_1, .slice A0_2 l0_2.length c0_2] 151 (0, 0)) zK222 hb)) (zA_ (za (zq zK203 hb)) (zA_ (za (hbox)) (zA_ (zN1 w.heap.size hg (zp zK203)) (zA_ (zN1 w.heap.size hg (zp zK203)) (zN2 hg (zz (g := gb306) (o := .cells #[.string a0_0, .int .i64 a0_1, .slice A0_2 l0_2.length c0_2] 151 (0, 0)) zK222)))))); clear BK306 HB; obtain ⟨BK306, HB, BK307, GW307, GE307, NB306_307, NB307_306⟩ := n_; clear hb hbox hg) | ((with_reducible refine gate_dst (N := 3) rfl ?_); refine box_event ?hg (N := 3) ?hd (cs := #[.string (⟨#[]⟩ : ByteArray), .int .i64 0, .slice none 0 0]) (t := 58) ?hr ?_; (case hd => rfl); (case hg => rfl); (case hr => exact zH124); intro gb308 hg w5 hbox hb; have n_ := zA_ (za (zo (g := gb306) (o := .cells #[.string a0_0, .int .i64 a0_1, .slice A0_2 l0_2.length c0_2] 151 (0, 0)) zK222 hb)) (zA_ (za (zo (g := gb307) (o := .cells #[.string (⟨#[]⟩ : ByteArray), .int .i64 0, .slice none 0 0] 58 (0, 0)) zK223 hb)) (zA_ (za (zq zK191 hb)) (zA_ (za (hbox)) (zA_ (zN1 w.heap.size hg (zp zK191)) (zA_ (zN1 w.heap.size hg (zp zK191)) (zN3 hg (zz (g := gb306) (o := .cells #[.string a0_0, .int .i64 a0_1, .slice A0_2 l0_2.length c0_2] 151 (0, 0)) zK222) (zN2 hg (zz (g := gb307) (o := .cells #[.string (⟨#[]⟩ : ByteArray), .int .i64 0, .slice none 0 0] 58 (0, 0)) zK223)))))))); clear BK306 BK307 HB; obtain ⟨BK306, BK307, HB, BK308, GW308, GE308, NB306_308, NB308_306, NB307_308, NB308_307⟩ := n_; clear hb hbox hg; have hnb6 := NB306_307.out; have hnc6 := NB307_306.out; have hnb7 := NB306_308.out; have hnc7 := NB308_306.out; obtain ⟨hcz8_0, hcz8_1, hcz8_2, hfz8_0, hfz8_1, hfz8_2⟩ := zB3 BK306.out; have hnb9 := NB308_307.out; have hnc9 := NB307_308.out; obtain ⟨hcz10_0, hcz10_1, hcz10_2, hfz10_0, hfz10_1, hfz10_2⟩ := zB3 BK308.out) | ((with_reducible refine gate_callee (f := 36) rfl ?_); refine goesL_ (some 12) rfl rfl Try.func36 zG106 rfl #[.slice A0_2 l0_2.length c0_2] rfl zG80 ?_; (with_reducible refine (laws_toStockedS.calls k _ _ l0_2 t309 _ ?side1 ?side2 A2.out).mono ?_); (case side1 => exact zab HR0_2.out zK183); (case side2 => exact HC0_2.out); rintro e w11 ⟨v310, rfl, ho0, hb⟩; refine ⟨_, rfl, ?_⟩; have n_ := zA_ (za (zah ho0 (zp zK183))) (zA_ (za (zo (g := gb306) (o := .cells #[.string a0_0, .int .i64 a0_1, .slice A0_2 l0_2.length c0_2] 151 (0, 0)) (by (with_reducible repeat (first | refine zc ?_ _ | refine ze ?_ | refine zb ?_ _)); refine zs ?_ NB306_308.out _; (with_reducible repeat (first | refine zc ?_ _ | refine ze ?_ | refine zb ?_ _)); refine zs ?_ NB306_308.out _; (with_reducible repeat (first | refine zc ?_ _ | refine ze ?_ | refine zb ?_ _)); exact BK306.out) hb)) (zA_ (za (zo (g := gb307) (o := .cells #[.string (⟨#[]⟩ : ByteArray), .int .i64 0, .slice none 0 0] 58 (0, 0)) (by (with_reducible repeat (first | refine zc ?_ _ | refine ze ?_ | refine zb ?_ _)); refine zs ?_ NB307_308.out _; (with_reducible repeat (first | refine zc ?_ _ | refine ze ?_ | refine zb ?_ _)); refine zs ?_ NB307_308.out _; (with_reducible repeat (first | refine zc ?_ _ | refine ze ?_ | refine zb ?_ _)); exact BK307.out) hb)) (zA_ (za (zo (g := gb308) (o := .cells #[.string a0_0, .int .i64 a0_1, .slice none 0 0] 58 (0, 0)) (by (with_reducible repeat (first | refine zc ?_ _ | refine ze ?_ | refine zb ?_ _)); refine zw (cs := #[.string a0_0, .int .i64 0, .slice none 0 0]) ?_ 1 _ rfl; (with_reducible repeat (first | refine zc ?_ _ | refine ze ?_ | refine zb ?_ _)); refine zw (cs := #[.string (⟨#[]⟩ : ByteArray), .int .i64 0, .slice none 0 0]) ?_ 0 _ rfl; (with_reducible repeat (first | refine zc ?_ _ | refine ze ?_ | refine zb ?_ _)); exact BK308.out) hb)) (za (zq zK183 hb))))); clear BK306 BK307 BK308 HB; obtain ⟨HO311, BK306, BK307, BK308, HB⟩ := n_; (try clear hb); (try clear ho0); obtain ⟨Ao12, co12, eo12⟩ := zaf HO311.out; subst eo12; obtain ⟨hcz13_0, hcz13_1, hcz13_2, hfz13_0, hfz13_1, hfz13_2⟩ := zB3 BK308.out; obtain ⟨hcz14_0, hcz14_1, hcz14_2, hfz14_0, hfz14_1, hfz14_2⟩ := zB3 BK307.out))
 refine bodyPost_ret (results_cell_row rfl _ _ gb307 58 #[.string a0_0, .int .i64 a0_1, .slice Ao12 t309.length co12] (0, 0) _ rfl (by (with_reducible repeat (first | refine zc ?_ _ | refine ze ?_ | refine zb ?_ _)); refine zw (cs := #[.string a0_0, .int .i64 a0_1, .slice none 0 0]) ?_ 2 _ rfl; (with_reducible repeat (first | refine zc ?_ _ | refine ze ?_ | refine zb ?_ _)); refine zw (cs := #[.string a0_0, .int .i64 0, .slice none 0 0]) ?_ 1 _ rfl; (with_reducible repeat (first | refine zc ?_ _ | refine ze ?_ | refine zb ?_ _)); refine zw (cs := #[.string (⟨#[]⟩ : ByteArray), .int .i64 0, .slice none 0 0]) ?_ 0 _ rfl; (with_reducible repeat (first | refine zc ?_ _ | refine ze ?_ | refine zb ?_ _)); refine zs ?_ NB307_308.out _; (with_reducible repeat (first | refine zc ?_ _ | refine ze ?_ | refine zb ?_ _)); exact BK307.out) Try.underlying58 rfl zG106) rfl ?_
 exact ⟨_, zH115, by (with_reducible repeat (first | apply zl | apply zm | apply zn)); exact zx (zr (p := ⟨gb307, 2, none⟩) (zr (p := ⟨gb307, 1, none⟩) (zr (p := ⟨gb307, 0, none⟩) (zr (p := ⟨gb308, 2, none⟩) (zaa (zaa HO311.out BK308.out zG107) BK307.out zG107) (fun _ hk => hk.1.2) (.slice Ao12 t309.length co12)) (fun _ hk => hk.2) (.string a0_0)) (fun _ hk => hk.2) (.int .i64 a0_1)) (fun _ hk => hk.2) (.slice Ao12 t309.length co12)) (fun _ hk => trivial), by repeat (first | (with_reducible first | exact HB.out | apply zh | apply zd | apply zg | refine zf ?_ GE306.out | refine zf ?_ GE307.out | refine zf ?_ GE308.out) | exact HB.out)⟩

/-! ### laws_toSourceS: function 35 -/
def laws_toSourceS.l0 : Nat → List (S151) → List (S58) → Int → Option ((List (S58)))
 | 0, _, _, _ => none
 | k + 1, x0, x3, x4 => if x4 < (x0.length : Int) then (if 0 ≤ x4 then ((laws_toSource.f k ((rd_T151 x0 x4).f0) ((rd_T151 x0 x4).f1) ((rd_T151 x0 x4).f2)).bind fun bt316 => (if x4 < (x3.length : Int) then (laws_toSourceS.l0 k x0 (x3.set (x4 : Int).toNat (⟨bt316.1, bt316.2.1, bt316.2.2⟩ : S58)) (wrap64 (x4 + 1))) else (none))) else (none)) else (some x3)
def laws_toSourceS.f (k : Nat) (l0 : List (S151)) : Option ((List (S58))) := if 0 ≤ (l0.length : Int) then (if ((l0.length : Int) : Int).toNat ≤ 5864062014805 then (laws_toSourceS.l0 k l0 (List.replicate ((l0.length : Int) : Int).toNat z58) 0) else (none)) else (none)
theorem laws_toSourceS.mono_l : ∀ k, (∀ y0 y1 y2, LeO (laws_toSourceS.l0 k y0 y1 y2) (laws_toSourceS.l0 (k + 1) y0 y1 y2))
 | 0 => fun _ _ _ r h => by simp [laws_toSourceS.l0] at h
 | k + 1 => by
  have ih0 := laws_toSourceS.mono_l k
  ·intro y0 y1 y2
   unfold laws_toSourceS.l0
   repeat' first
   | (with_reducible exact ih0 _ _ _)
   | (with_reducible exact laws_toSource.mono _ _ _ _)
   | (with_reducible exact LeO.refl _)
   | (with_reducible exact LeO.none _)
   | (with_reducible refine LeO.ite ?_ ?_)
   | (with_reducible refine LeO.bind ?_ (fun _ => ?_))
   | exact ih0 _ _ _
   | exact laws_toSource.mono _ _ _ _
   | exact LeO.none _
   | refine LeO.ite ?_ ?_
   | refine LeO.bind ?_ (fun _ => ?_)
theorem laws_toSourceS.mono : ∀ a0 k, LeO (laws_toSourceS.f k a0) (laws_toSourceS.f (k + 1) a0) := by
 intro a0 k
 have ih0 := laws_toSourceS.mono_l k
 unfold laws_toSourceS.f
 repeat' first
   | (with_reducible exact ih0 _ _ _)
   | (with_reducible exact laws_toSource.mono _ _ _ _)
   | (with_reducible exact LeO.refl _)
   | (with_reducible exact LeO.none _)
   | (with_reducible refine LeO.ite ?_ ?_)
   | (with_reducible refine LeO.bind ?_ (fun _ => ?_))
   | exact ih0 _ _ _
   | exact laws_toSource.mono _ _ _ _
   | exact LeO.none _
   | refine LeO.ite ?_ ?_
   | refine LeO.bind ?_ (fun _ => ?_)
set_option maxHeartbeats 64000000 in
set_option maxRecDepth 100000 in
theorem laws_toSourceS.calls (k : Nat) (A0 : Option Addr) (c0 : Nat) (l0 : List (S151)) (r : List (S58)) (w : World) (hr0 : Kd.C k151 w A0 l0.length l0) (hc0 : l0.length ≤ c0) (h : laws_toSourceS.f k l0 = some r) :
  Calls Try.prog 35 #[.slice A0 l0.length c0] w fun e w' => ∃ v0_ : Value, e = .returned (v0_) ∧ Kd.S k58 58 w' w.heap.size (fun _ => True) v0_ r ∧ Below w.heap.size w w' := by
 have hu151 := Try.underlying151
 have hu58 := Try.underlying58
 obtain ⟨HR0, HC0, HB⟩ := zD3 hr0 hc0 (Below.refl w.heap.size w)
 clear hr0 hc0
 have H : (if 0 ≤ (l0.length : Int) then (if ((l0.length : Int) : Int).toNat ≤ 5864062014805 then (laws_toSourceS.l0 k l0 (List.replicate ((l0.length : Int) : Int).toNat z58) 0) else (none)) else (none)) = some r := h
 clear h
 by_cases c2 : 0 ≤ (l0.length : Int)
 rotate_left
 ·rw [if_neg c2] at H
  exact absurd H (by simp)

 rw [if_pos c2] at H
 have c2b0 := eq_true c2
 have c2b1 := decide_eq_true c2
 clear c2
 by_cases c3 : ((l0.length : Int) : Int).toNat ≤ 5864062014805
 rotate_left
 ·rw [if_neg c3] at H
  exact absurd H (by simp)
 rw [if_pos c3] at H
 have c3b0 := eq_true c3
 have c3b1 := decide_eq_true c3
 clear c3
 obtain ⟨y312, hy312⟩ : ∃ y_ : List (S58), y_ = (List.replicate ((l0.length : Int) : Int).toNat z58) := ⟨_, rfl⟩
 replace H : (laws_toSourceS.l0 k l0 y312 0) = some r := by first | (rw [hy312]; with_reducible exact H) | (have H2_ := (Option.bind_some _ _).symm.trans H; rw [hy312]; with_reducible exact H2_) | (have H2_ := (Option.bind_some _ _).symm.trans H; with_reducible exact H2_) | with_reducible exact H | (rw [hy312]; exact H) | exact H
 have Ny312 := za hy312
 clear hy312
 have H' := za H
 clear H
 go_enter Try.func35, Try.ntmps35
 go_wp2_with (first | ((with_reducible refine gate_dst (N := 7) rfl ?_); refine Kd.S_make k58 _ 58 rfl (N := 7) rfl 47 _ _ rfl (l0.length : Int) rfl rfl Try.underlying47 (.agg #[(.string ⟨#[]⟩), (.int .i64 0), (.slice none 0 0)]) 48 info58 rfl zG107 (by omega) z58 (ok := fun _ => True) (okp := fun _ => True) (k58_mkM _ _ _ z58 (zat _ _ _ _ _)) (fun _ hk => hk) trivial zO (Nat.le_trans (Nat.mul_le_mul_right _ (zO : (l0.length : Int).toNat ≤ 5864062014805)) (by omega)) (Below.refl _ _) (Nat.le_refl _) ?_; intro v313 w4 ho5 hb hg_ hnew_; clear hg_ hnew_; (first | rw [← Ny312.out] at ho5 | (simp only [Int.reduceToNat] at ho5; rw [← Ny312.out] at ho5)); have n_ := zA_ (za (zbj ho5 (zp zG85))) (za (zq zG85 hb)); clear HB; obtain ⟨HO314, HB⟩ := n_; clear hb ho5))
 go_loopg [4] k (fun kq v4 w' => ∃ (x3_1 : List (S58)) (x4_1 : Int), v4 = .int .i64 x4_1 ∧ Aside0 (laws_toSourceS.l0 kq l0 x3_1 x4_1 = some r) ∧ Aside0 (kq ≤ k) ∧ Aside0 (Kd.S k58 58 w' w.heap.size (fun _ => True) v313 x3_1) ∧ Aside0 (Below w.heap.size w w'))
 case atStart => exact ⟨(y312), (0), zG105, H', ⟨Nat.le_refl _⟩, ⟨by (with_reducible repeat (first | apply zad | apply zae | apply zag)); exact HO314.out⟩, ⟨zH104⟩⟩
 case round =>
  clear H'
  try clear c2
  try clear c2b0
  try clear c2b1
  try clear c3
  try clear c3b0
  try clear c3b1
  obtain ⟨x3_1, x4_1, rfl, HA, HK1, HO_3, HB⟩ := hrel
  cases gk with
  | zero => exact absurd HA.out (by simp [laws_toSourceS.l0])
  | succ k1 =>
   have H := HA.out
   clear HA
   simp only [laws_toSourceS.l0] at H
   by_cases c6 : x4_1 < (l0.length : Int)
   rotate_left
   ·rw [if_neg c6] at H
    have c6b0 := decide_eq_false c6
    clear c6
    obtain rfl := Option.some.inj H
    go_wp2
    go_ret
    exact ⟨_, zH115, by (with_reducible repeat (first | apply zad | apply zae | apply zag)); exact HO_3.out, zH104⟩
   rw [if_pos c6] at H
   have c6b0 := decide_eq_true c6
   clear c6
   by_cases c7 : 0 ≤ x4_1
   rotate_left
   ·rw [if_neg c7] at H
    exact absurd H (by simp)
   rw [if_pos c7] at H
   have c7b0 := decide_eq_true c7
   clear c7
   replace H := Option.bind_eq_some_iff.mp H
   obtain ⟨⟨t316, t317, t318⟩, A80, H⟩ := H
   replace H : (if x4_1 < (x3_1.length : Int) then (laws_toSourceS.l0 k1 l0 (x3_1.set (x4_1 : Int).toNat (⟨t316, t317, t318⟩ : S58)) (wrap64 (x4_1 + 1))) else (none)) = some r := H
   have A8 := za A80
   clear A80
   by_cases c9 : x4_1 < (x3_1.length : Int)
   rotate_left
   ·rw [if_neg c9] at H
    exact absurd H (by simp)
   rw [if_pos c9] at H
   have c9b0 := decide_eq_true c9
   clear c9
   obtain ⟨y321, hy321⟩ : ∃ y_ : List (S58), y_ = (x3_1.set (x4_1 : Int).toNat (⟨t316, t317, t318⟩ : S58)) := ⟨_, rfl⟩
   replace H : (laws_toSourceS.l0 k1 l0 y321 (wrap64 (x4_1 + 1))) = some r := by first | (rw [hy321]; with_reducible exact H) | (have H2_ := (Option.bind_some _ _).symm.trans H; rw [hy321]; with_reducible exact H2_) | (have H2_ := (Option.bind_some _ _).symm.trans H; with_reducible exact H2_) | with_reducible exact H | (rw [hy321]; exact H) | exact H
   have Ny321 := za hy321
   clear hy321
   have H' := za H
   clear H
   have p315 : 0 ≤ (x4_1 : Int) := zO
   have q315 : x4_1 < (l0.length : Int) := zO
   obtain ⟨ad315, A315_2, c315_2, e315, hx315_0, hx315_1, hx315_2, hl315_2, hi315_2⟩ := at_T151 HR0.out x4_1 p315 q315
   cases e315
   replace hx315_0 := (HB.out.cell (zj w _ hx315_0)).trans hx315_0
   replace hx315_1 := (HB.out.cell (zj w _ hx315_1)).trans hx315_1
   replace hx315_2 := (HB.out.cell (zj w _ hx315_2)).trans hx315_2
   obtain ⟨HR315_2, HC315_2⟩ := zD2 hi315_2 hl315_2
   clear hi315_2 hl315_2
   replace p315 := eq_true p315
   replace q315 := eq_true q315
   go_wp2_with (first | ((with_reducible refine gate_callee (f := 104) rfl ?_); refine goesL_ (some 20) rfl rfl Try.func104 zG106 rfl #[.agg #[.string ((rd_T151 l0 x4_1).f0), .int .i64 ((rd_T151 l0 x4_1).f1), .slice A315_2 ((rd_T151 l0 x4_1).f2).length c315_2]] rfl zG80 ?_; (with_reducible refine (laws_toSource.calls k1 ((rd_T151 l0 x4_1).f0) ((rd_T151 l0 x4_1).f1) _ _ ((rd_T151 l0 x4_1).f2) t316 t317 t318 _ ?side1 ?side2 A8.out).mono ?_); (case side1 => repeat (first | exact (zab HR315_2.out HB.out) | (with_reducible refine zu ?_ _) | (with_reducible refine zv ?_ _) | (with_reducible refine zy ?_))); (case side2 => exact HC315_2.out); rintro e w11 ⟨v319, rfl, ho0, hb⟩; refine ⟨_, rfl, ?_⟩; have n_ := zA_ (za (zav (by (with_reducible repeat (first | apply zad | apply zae | apply zag)); exact HO_3.out) (zai ho0) hb)) (zA_ (za (zah ho0 (zp zG85))) (za (zq zG85 hb))); clear HO_3 HB; obtain ⟨HO_3, HO320, HB⟩ := n_; (try clear hb); (try clear hk); (try clear ho0); have p10 : 0 ≤ (x4_1 : Int) := zO; have q10 : (x4_1 : Int) < ((x3_1.length : Int) : Int) := zO; obtain ⟨go10, co10, eo10, gb10, gl10, cl10, HG10⟩ := Kd.S_form HO_3.out (by omega); (first | cases eo10 | (injection eo10 with ea_ en_ ec_; (first | subst ea_ | (injection ea_ with ea_; subst ea_)); subst ec_; clear en_)); have GB10 := za gb10; have GG10 := za HG10; clear gb10 gl10 HG10; obtain ⟨_, ce10, hcl10, hM10, hcc10, hfr10, _, _⟩ := Kd.S_elem HO_3.out z58 (x4_1 : Int) p10 q10; obtain ⟨ve10_2, rfl, ge10_2⟩ := k58_openM hM10; have hx10_0 : w11.cell? ⟨go10, (x4_1 : Int).toNat * 3, none⟩ = some (.string ((rd_T58 x3_1 x4_1).f0)) := hcc10 0 _ rfl; have hx10_1 : w11.cell? ⟨go10, (x4_1 : Int).toNat * 3 + 1, none⟩ = some (.int .i64 ((rd_T58 x3_1 x4_1).f1)) := hcc10 1 _ rfl; have hx10_2 : w11.cell? ⟨go10, (x4_1 : Int).toNat * 3 + 2, none⟩ = some (ve10_2) := hcc10 2 _ rfl; have hf10_0 : w11.frozen? ⟨go10, (x4_1 : Int).toNat * 3, none⟩ = false := hfr10 0; have hf10_1 : w11.frozen? ⟨go10, (x4_1 : Int).toNat * 3 + 1, none⟩ = false := hfr10 1; have hf10_2 : w11.frozen? ⟨go10, (x4_1 : Int).toNat * 3 + 2, none⟩ = false := hfr10 2; clear hcl10 hcc10 hfr10 hM10; replace p10 := eq_true p10; replace q10 := eq_true q10; have n_ := za (zaz (ok' := (fun k_ => some k_ ≠ (v319 : Value).ownBlock)) HO_3.out (fun k_ hk => hk.2)); clear HO_3; have HO_3 := n_; clear n_; have HX12 := za (show Kd.S k58 58 w11 w.heap.size (fun k_ => ((fun _ => True)) k_ ∧ ¬ ((fun k_ => some k_ = (v319 : Value).ownBlock)) k_) (.slice (some ⟨go10, 0, none⟩) x3_1.length co10) x3_1 from (by (with_reducible repeat (first | apply zad | apply zae | apply zag)); exact zaz HO_3.out (fun k_ hk => ⟨trivial, fun e_ => hk e_⟩))); obtain ⟨oki12, ce12, hcl12, hM12, hcc12, hfr12, hoki12, hH12⟩ := Kd.S_elem HX12.out z58 (x4_1 : Int) zO (by have h_ : (x4_1 : Int) < ((x3_1.length : Int) : Int) := zO; first | exact h_ | (have e_ := (zan HO_3.out).1; omega) | simpa using h_); obtain ⟨ve12_2, rfl, ge12_2⟩ := k58_openM hM12; have HP12 := Kd.S_seg hH12 zO (by have h_ : (x4_1 : Int) < ((x3_1.length : Int) : Int) := zO; first | exact h_ | (have e_ := (zan HO_3.out).1; omega) | simpa using h_) (seg := [.string t316, .int .i64 t317, v319]) (j := 0) (show 3 ≤ 3 from by decide) (x' := (⟨t316, t317, t318⟩ : S58)) (k58_mkM _ _ _ (⟨t316, t317, t318⟩ : S58) (zx (zax rfl (zx (ok' := fun k_ => ((fun _ => True)) k_ ∧ k_ ≠ go10) (Kd.R_apart' (HO320.out) (Kd.S_typed HO_3.out) zG107) (fun k_ hk => ⟨trivial, fun e_ => (hk.2) (by rw [e_]; rfl)⟩))) (fun _ h_ => Or.inr (h_)))) (fun _ hk => hk) (fun k_ hk_ => ((zx (ok' := fun k_ => ((fun _ => True)) k_ ∧ k_ ≠ go10) (Kd.R_apart' (HO320.out) (Kd.S_typed HO_3.out) zG107) (fun k_ hk => ⟨trivial, fun e_ => (hk.2) (by rw [e_]; rfl)⟩))).1 k_ hk_.symm); have hx12_0 := hcc12 0 _ rfl; (try simp only [show (k58).sz = 3 from rfl, Nat.mul_one, Nat.add_zero] at hx12_0); have hf12_0 := hfr12 0; (try simp only [show (k58).sz = 3 from rfl, Nat.mul_one, Nat.add_zero] at hf12_0); have hx12_1 := hcc12 1 _ rfl; (try simp only [show (k58).sz = 3 from rfl, Nat.mul_one, Nat.add_zero] at hx12_1); have hf12_1 := hfr12 1; (try simp only [show (k58).sz = 3 from rfl, Nat.mul_one, Nat.add_zero] at hf12_1); have hx12_2 := hcc12 2 _ rfl; (try simp only [show (k58).sz = 3 from rfl, Nat.mul_one, Nat.add_zero] at hx12_2); have hf12_2 := hfr12 2; (try simp only [show (k58).sz = 3 from rfl, Nat.mul_one, Nat.add_zero] at hf12_2); clear hcl12 hcc12 hfr12 hM12 hoki12 hH12) | ((with_reducible refine gate_store (t := 58) (p := 21) rfl ?_); refine store_event (t := 58) (p := 21) (v := ?vo_w13) (w1 := (((w11.setCell ⟨go10, (x4_1 : Int).toNat * 3, none⟩ (.string t316)).setCell ⟨go10, (x4_1 : Int).toNat * 3 + 1, none⟩ (.int .i64 t317)).setCell ⟨go10, (x4_1 : Int).toNat * 3 + 2, none⟩ (v319))) ?hg ?ho ?hn ?hr ?_; (case ho => rfl); (case hg => rfl); (case hn => rfl); (case hr => first | (go_simp; done) | (go_simp; rfl) | ((have hst0_ : (v319 : Value).oneCell' = true := (Kd.R_val (Aside0.out (by assumption))).2); go_simp; rw [run_store _ _ _ _ _ hst0_]; go_simp; done) | ((have hst0_ : (v319 : Value).oneCell' = true := (Kd.R_val (Aside0.out (by assumption))).2); go_simp; rw [run_store _ _ _ _ _ hst0_]; go_simp; rfl)); intro w13 hw; have hg : w11.grownBy w13 (some go10) := (by rw [hw]; exact HP12.2); have hp_ : Kd.S k58 58 w13 w.heap.size (fun _ => True) (.slice (some ⟨go10, 0, none⟩) x3_1.length co10) y321 := (by rw [hw, Ny321.out]; exact HP12.1); clear HP12; have n_ := zA_ (za (hp_)) (za ((by rw [hw]; exact zf (zf (zf (HB.out) GB10.out) GB10.out) GB10.out : Below w.heap.size w w13))); clear HO_3 HB HO320; obtain ⟨HO_3, HB⟩ := n_; clear hg hw hp_))
   go_roundg k1
   case measure => have := HK1.out; omega
   case rel => exact ⟨(y321), (wrap64 (x4_1 + 1)), zG105, H', ⟨zH127⟩, ⟨by (with_reducible repeat (first | apply zad | apply zae | apply zag)); exact HO_3.out⟩, ⟨zH104⟩⟩
end Go.Proofs.Ytojncbpeeboooaa.V
