-- squeezed
-- made by pp.py (wip/tools) out of the translation; Lean checks it
import Derived.Test.YtnkceaibkfbeaaaE4
import Derived.Test.YtnkceaibkfbeaaaE0
import Derived.Test.YtnkceaibkfbeaaaE5
import Derived.Test.YtnkceaibkfbeaaaE8
import Derived.Test.YtnkceaibkfbeaaaE9
import Derived.Test.YtnkceaibkfbeaaaE10
import Derived.Test.YtnkceaibkfbeaaaE11
namespace Go.Proofs.Ytnkceaibkfbeaaa.E
open Go.RowKit Go.Proofs.YtnkceaibkfbeaaaW.PrintWords Go.Proofs.YtnkceaibkfbeaaaW.PrintLast Go.Proofs.YtnkceaibkfbeaaaW.PrintMore
attribute [local go_sem] max2_int min2_int max_two min_two max_three min_three max_four min_four   -- for this text's walks alone
set_option linter.unusedVariables false
set_option linter.unusedSimpArgs false

abbrev q12a := @Kd.R_reads'
/-! ### spec_l14Act: function 26 -/
def sact.T7 : Bool × List (List Nat × List Nat) := (true, [([], []), ([0], [0]), ([], []), ([], []), ([3], [3]), ([2, 4], [2, 4]), ([1, 5], [1, 5])])
def sact.B7 : List Nat := [0, 1, 0, 0, 8, 28, 63]
theorem sact.tab7 : rtab .any (opsOf Try.f26 7) = sact.T7 := by kernel_rfl
theorem sact.bits7 : waitsOk sact.T7.2 sact.B7 = true := by kernel_rfl
def sact.T9 : Bool × List (List Nat × List Nat) := (true, [([], []), ([0], [0]), ([], []), ([], []), ([3], [3]), ([2, 4], [2, 4]), ([1, 5], [1, 5])])
def sact.B9 : List Nat := [0, 1, 0, 0, 8, 28, 63]
theorem sact.tab9 : rtab .any (opsOf Try.f26 9) = sact.T9 := by kernel_rfl
theorem sact.bits9 : waitsOk sact.T9.2 sact.B9 = true := by kernel_rfl
def sact.T11 : Bool × List (List Nat × List Nat) := (true, [([], []), ([0], [0]), ([], []), ([], []), ([3], [3]), ([2, 4], [2, 4]), ([1, 5], [1, 5])])
def sact.B11 : List Nat := [0, 1, 0, 0, 8, 28, 63]
theorem sact.tab11 : rtab .any (opsOf Try.f26 11) = sact.T11 := by kernel_rfl
theorem sact.bits11 : waitsOk sact.T11.2 sact.B11 = true := by kernel_rfl
def spec_l14Act.f (k : Nat) (d0 d1 d2 d3 d4 : Int) (l : List S38) (x0 : Int) (x1 : ByteArray) (x2 x3 x4 : Int) : Option (Int × Int × Int × Int × Int × (List (S38)) × Int × Int) :=
 if x0 = 1 then spec_l14Receive.f k d0 d1 d2 d3 d4 l x0 x1 x2 x3 x4
 else if x0 = 2 then
  (if x3 < 1 then some (d0, d1, d2, d3, d4, l, 5, 0)
  else (spec_l14Units.f k d0 d1 d2 d3 d4 l x1 0).bind fun t0 =>
   if x3 > t0 then (spec_l14Units.f k d0 d1 d2 d3 d4 l x1 1).bind fun t1 =>
    if x3 ≤ t1 then some (d0, d1, d2, d3, d4, l, 18, 0)
    else (spec_l14Units.f k d0 d1 d2 d3 d4 l x1 2).bind fun t2 => if x3 ≤ t2 then some (d0, d1, d2, d3, d4, l, 17, 0) else some (d0, d1, d2, d3, d4, l, 19, 0)
   else (spec_l14Sell.f k d0 d1 d2 d3 d4 l x1 x3).bind fun q => some (q.1, q.2.1, q.2.2.1, q.2.2.2.1, q.2.2.2.2.1, q.2.2.2.2.2.1, 0, q.2.2.2.2.2.2))
 else if x0 = 3 then (spec_l01In.f x3 d0 100000).bind fun t => if t = true then some (x3, d1, d2, d3, d4, l, 0, x3) else some (d0, d1, d2, d3, d4, l, 5, 0)
 else if x0 = 4 ∨ x0 = 5 ∨ x0 = 6 ∨ x0 = 7 then (spec_l14Find.f k l x1 x2).bind fun a => if a < 0 then some (d0, d1, d2, d3, d4, l, 8, 0) else spec_l14Lot.f k d0 d1 d2 d3 d4 l x0 x1 x2 x3 x4 a
 else some (d0, d1, d2, d3, d4, l, 13, 0)
theorem spec_l14Act.mono : ∀ a0 a1 a2 a3 a4 a5 a6 a7 a8 a9 a10 k, LeO (spec_l14Act.f k a0 a1 a2 a3 a4 a5 a6 a7 a8 a9 a10) (spec_l14Act.f (k + 1) a0 a1 a2 a3 a4 a5 a6 a7 a8 a9 a10) := by
 intro a0 a1 a2 a3 a4 a5 a6 a7 a8 a9 a10 k
 unfold spec_l14Act.f
 refine LeO.ite (spec_l14Receive.mono _ _ _ _ _ _ _ _ _ _ _ _) (LeO.ite (LeO.ite (LeO.refl _) (LeO.bind (spec_l14Units.mono _ _ _ _ _ _ _ _ _) (fun _ => LeO.ite (LeO.bind (spec_l14Units.mono _ _ _ _ _ _ _ _ _) (fun _ => LeO.ite (LeO.refl _) (LeO.bind (spec_l14Units.mono _ _ _ _ _ _ _ _ _) (fun _ => LeO.refl _)))) (LeO.bind (spec_l14Sell.mono _ _ _ _ _ _ _ _ _) (fun _ => LeO.refl _))))) (LeO.ite (LeO.refl _) (LeO.ite (LeO.bind (spec_l14Find.mono _ _ _ _) (fun _ => LeO.ite (LeO.refl _) (spec_l14Lot.mono _ _ _ _ _ _ _ _ _ _ _ _ _))) (LeO.refl _))))
set_option maxHeartbeats 8000000 in
set_option maxRecDepth 100000 in
theorem spec_l14Act.calls (k : Nat) (d0 d1 d2 d3 d4 : Int) (P0 : Nat → Prop) (u : Value) (l : List S38) (x0 : Int) (x1 : ByteArray) (x2 x3 x4 r1_ r2_ r3_ r4_ r5_ : Int) (r6_ : List S38) (r7_ r8_ : Int) (w0 w : World) (hB : Below w0.heap.size w0 w) (ho : Kd.R k38 38 w w0.heap.size P0 u l) (h : spec_l14Act.f k d0 d1 d2 d3 d4 l x0 x1 x2 x3 x4 = some (r1_, r2_, r3_, r4_, r5_, r6_, r7_, r8_)) :
  Calls Try.prog 26 #[.agg (zs6 d0 d1 d2 d3 d4 u), .agg (za5 x0 x1 x2 x3 x4)] w fun e w' => ∃ v5_ : Value, e = .returned (.tuple #[.agg (zs6 r1_ r2_ r3_ r4_ r5_ v5_), .agg (zo2 r7_ r8_)]) ∧ Kd.R k38 38 w' w0.heap.size (fun k_ => (P0 k_ ∨ w.heap.size ≤ k_)) v5_ r6_ ∧ Below w0.heap.size w0 w' ∧ Kept w w' (fun k_ => P0 k_) := by
 have hu34 := Try.underlying34
 have hu36 := Try.underlying36
 have hu38 := Try.underlying38
 have hu29 := Try.underlying29
 have hz36 := szero36
 have hz29 := szero29
 unfold spec_l14Act.f at h
 obtain ⟨A, cu, rfl⟩ := zx ho
 obtain ⟨H0, HP, HH⟩ := zD3 (Bag.mk1 hB ho) (show ∀ k_, (fun k => P0 k ∧ k < w.heap.size) k_ → P0 k_ ∨ w.heap.size ≤ k_ from fun _ hk => .inl hk.1) h
 clear hB ho h
 go_enter Try.func26, Try.ntmps26
 go_upto_region 1 with (first | (refine box_bag H0.out 2 (zs6 d0 d1 d2 d3 d4 (.slice A l.length cu)) 29 rfl ?_; intro sb w1 h_; have H1 := za h_; clear h_) | (refine box_bag H1.out 3 (za5 x0 x1 x2 x3 x4) 34 rfl ?_; intro xb w2 h_; have H2 := za h_; clear h_) | (refine box_bag H2.out 4 (zs6 0 0 0 0 0 (.slice none 0 0)) 29 rfl ?_; intro r1 w3 h_; have H3 := za h_; clear h_) | (refine box_bag H3.out 5 (zo2 0 0) 36 rfl ?_; intro r2 w4 h_; have H4 := za h_; clear h_))
 clear H0 H1 H2 H3
 obtain ⟨⟨kb0e, kb1e⟩, fb0e, fb1e⟩ := cells2 (H4.out.get 0 rfl)
 obtain ⟨⟨ka0e, ka1e, ka2e, ka3e, ka4e, ka5e⟩, fa0e, fa1e, fa2e, fa3e, fa4e, fa5e⟩ := cells6 (H4.out.get 1 rfl)
 obtain ⟨⟨kx0e, kx1e, kx2e, kx3e, kx4e⟩, fx0e, fx1e, fx2e, fx3e, fx4e⟩ := cells5 (H4.out.get 2 rfl)
 obtain ⟨⟨ks0e, ks1e, ks2e, ks3e, ks4e, ks5e⟩, fs0e, fs1e, fs2e, fs3e, fs4e, fs5e⟩ := cells6 (H4.out.get 3 rfl)
 have h := HH.out
 clear HH
 by_cases k1 : x0 = 1
 ·subst k1
  rw [if_pos rfl] at h
  have HX := za h
  clear h hz29 hz36
  go_wp2_with (first | (go_at_call 41; with_reducible refine (spec_l14Receive.calls k d0 d1 d2 d3 d4 _ _ l 1 x1 x2 x3 x4 r1_ r2_ r3_ r4_ r5_ r6_ r7_ r8_ w0 w4 H4.out.below H4.out.row HX.out).mono ?_; rintro e w5 ⟨v5, rfl, hr9, hb9, hk9⟩; obtain ⟨A5, c5, rfl⟩ := zx hr9; have H5 := za (H4.out.handed hr9 hb9 hk9); clear hr9 hb9 hk9) | (refine store_bag H5.out 1 4 rfl ?_; intro wy h_; have HY := za h_; clear h_) | (refine store_bag HY.out 0 5 rfl ?_; intro wz h_; have HZ := za h_; clear h_))
  refine bodyPost_ret (results_cc rfl _ _ r1 r2 29 36 _ _ (0, 0) (0, 0) _ _ rfl (HZ.out.get 1 rfl) Try.underlying29 rfl zG83 rfl (HZ.out.get 0 rfl) Try.underlying36 rfl zG83) rfl ?_
  have HF := HZ.out.finV (P0 := P0) (fun k_ hk => hk.1.elim (HP.out k_) (fun hh => .inr (Nat.le_trans H4.out.kept.1 hh)))
  first | exact ⟨_, rfl, HF.1, HF.2.1, HF.2.2⟩ | exact ⟨rfl, _, HF.1, HF.2.1, HF.2.2⟩
 rw [if_neg k1] at h
 have e1 : (x0 == 1) = false := beq_eq_false_iff_ne.mpr k1
 by_cases k2 : x0 = 2
 ·subst k2
  rw [if_pos rfl] at h
  clear k1 e1
  by_cases kx : x3 < 1
  ·rw [if_pos kx] at h
   simp only [Option.some.injEq, Prod.mk.injEq] at h
   obtain ⟨rfl, rfl, rfl, rfl, rfl, rfl, rfl, rfl⟩ := h
   have kxb := decide_eq_true kx
   clear kx
   go_wp2_with (first | (refine store_bag H4.out 1 4 rfl ?_; intro wy h_; have HY := za h_; clear h_) | (refine store_bag HY.out 0 5 rfl ?_; intro wz h_; have HZ := za h_; clear h_))
   refine bodyPost_ret (results_cc rfl _ _ r1 r2 29 36 _ _ (0, 0) (0, 0) _ _ rfl (HZ.out.get 1 rfl) Try.underlying29 rfl zG83 rfl (HZ.out.get 0 rfl) Try.underlying36 rfl zG83) rfl ?_
   have HF := HZ.out.finV (P0 := P0) HP.out
   first | exact ⟨_, rfl, HF.1, HF.2.1, HF.2.2⟩ | exact ⟨rfl, _, HF.1, HF.2.1, HF.2.2⟩
  rw [if_neg kx] at h
  have kxb := decide_eq_false kx
  clear kx
  replace h := Option.bind_eq_some_iff.mp h
  obtain ⟨t0, a1, h⟩ := h
  have N0 := za a1
  clear a1
  by_cases g0 : x3 > t0
  rotate_left
  ·rw [if_neg g0] at h
   have g0b := decide_eq_false g0
   have g0b' : decide (t0 < x3) = false := decide_eq_false g0
   have g0p : (t0 < x3) = False := eq_false g0
   clear g0
   replace h := Option.bind_eq_some_iff.mp h
   obtain ⟨⟨s1, s2, s3, s4, s5, s6, s7⟩, a1, h⟩ := h
   have HX := za a1
   clear a1
   simp only [Option.some.injEq, Prod.mk.injEq] at h
   obtain ⟨rfl, rfl, rfl, rfl, rfl, rfl, rfl, rfl⟩ := h
   go_upto_region 7 with (fail)
   try go_wp2
   have HD_ := za H4.out.drew
   refine start_ (n := 7) (S := fun w' => w'.cell? ⟨xb, 1, none⟩ = some (.string x1) ∧ w'.cell? ⟨xb, 3, none⟩ = some (.int .i64 x3) ∧ w'.cell? ⟨sb, 0, none⟩ = some (.int .i64 d0) ∧ w'.cell? ⟨sb, 1, none⟩ = some (.int .i64 d1) ∧ w'.cell? ⟨sb, 2, none⟩ = some (.int .i64 d2) ∧ w'.cell? ⟨sb, 3, none⟩ = some (.int .i64 d3) ∧ w'.cell? ⟨sb, 4, none⟩ = some (.int .i64 d4) ∧ w'.cell? ⟨sb, 5, none⟩ = some (.slice A l.length cu)) (ds := []) (zM 7 0) zG83 rfl rfl ⟨(HD_.out.cell 2 rfl 1).trans rfl, (HD_.out.cell 2 rfl 3).trans rfl, (HD_.out.cell 3 rfl 0).trans rfl, (HD_.out.cell 3 rfl 1).trans rfl, (HD_.out.cell 3 rfl 2).trans rfl, (HD_.out.cell 3 rfl 3).trans rfl, (HD_.out.cell 3 rfl 4).trans rfl, (HD_.out.cell 3 rfl 5).trans rfl⟩ (fun hHeld => ?_)
   refine with_tabW sact.tab7 sact.bits7 (fun HT_ HW_ => ?_)
   generalize w4.drew = wd_ at HD_ hHeld ⊢
   refine zP 0 26 (zM 7 1) HT_ ?_
   refine zQ 1 27 (zM 7 3) HT_ HW_ hHeld ?_
   refine zQ 2 28 (zM 7 7) HT_ HW_ hHeld ?_
   refine zP 3 29 (zM 7 15) HT_ ?_
   refine zQ 4 30 (zM 7 31) HT_ HW_ hHeld ?_
   refine one_ (i := 5) (N := some 31) (zM 7 63) rfl rfl (one_of HT_.out zG83) zG84 (fun K hK => ?_)
   refine goes_ Try.func42 zG83 rfl #[.agg (zs6 d0 d1 d2 d3 d4 (.slice A l.length cu)), .string x1, .int .i64 0] (by rfl) rfl rfl zK166 ?_
   with_reducible refine (spec_l14Units.calls k d0 d1 d2 d3 d4 _ _ l x1 0 t0 _ (q12a HD_.out.row).2.2 (q12a HD_.out.row).2.1 N0.out).mono ?_
   rintro e w5 ⟨rfl, hb9⟩
   refine ⟨_, rfl, ?_⟩
   have H5 := za (HD_.out.go hb9)
   clear hb9
   refine hK.out _ _ ⟨(H5.out.cell 2 rfl 1).trans rfl, (H5.out.cell 2 rfl 3).trans rfl, (H5.out.cell 3 rfl 0).trans rfl, (H5.out.cell 3 rfl 1).trans rfl, (H5.out.cell 3 rfl 2).trans rfl, (H5.out.cell 3 rfl 3).trans rfl, (H5.out.cell 3 rfl 4).trans rfl, (H5.out.cell 3 rfl 5).trans rfl⟩ (fun hHeld => ?_)
   clear hK K
   refine norm_ (a' := ?_) ?_ ?_
   rotate_left
   ·show Act.put _ (some 31) _ = _
    simp only [Act.put, List.setIfInBounds_toArray, List.set_cons_zero, List.set_cons_succ, i64_w, i32_w]
    rfl
   refine zP 6 32 (zM 7 127) HT_ ?_
   refine done_ (done_of HT_.out zG83) ?_
   clear HD_ hHeld
   clear H4 kb0e fb0e kb1e fb1e ka0e fa0e ka1e fa1e ka2e fa2e ka3e fa3e ka4e fa4e ka5e fa5e kx0e fx0e kx1e fx1e kx2e fx2e kx3e fx3e kx4e fx4e ks0e fs0e ks1e fs1e ks2e fs2e ks3e fs3e ks4e fs4e ks5e fs5e
   obtain ⟨⟨kb0f, kb1f⟩, fb0f, fb1f⟩ := cells2 (H5.out.get 0 rfl)
   obtain ⟨⟨ka0f, ka1f, ka2f, ka3f, ka4f, ka5f⟩, fa0f, fa1f, fa2f, fa3f, fa4f, fa5f⟩ := cells6 (H5.out.get 1 rfl)
   obtain ⟨⟨kx0f, kx1f, kx2f, kx3f, kx4f⟩, fx0f, fx1f, fx2f, fx3f, fx4f⟩ := cells5 (H5.out.get 2 rfl)
   obtain ⟨⟨ks0f, ks1f, ks2f, ks3f, ks4f, ks5f⟩, fs0f, fs1f, fs2f, fs3f, fs4f, fs5f⟩ := cells6 (H5.out.get 3 rfl)
   go_wp2_with (first | (go_at_call 43; with_reducible refine (spec_l14Sell.calls k d0 d1 d2 d3 d4 _ _ l x1 x3 s1 s2 s3 s4 s5 s6 s7 w0 w5 H5.out.below H5.out.row HX.out).mono ?_; rintro e w6 ⟨v6, rfl, hr9, hb9, hk9⟩; obtain ⟨A6, c6, rfl⟩ := zx hr9; have H6 := za (H5.out.handed hr9 hb9 hk9); clear hr9 hb9 hk9) | (refine box_bag H6.out 7 (zs6 0 0 0 0 0 (.slice none 0 0)) 29 rfl ?_; intro tb w7 h_; have H7 := za h_; clear h_) | (refine store_bag H7.out 0 7 rfl ?_; intro w8 h_; have H8 := za h_; clear h_; obtain ⟨⟨kt0i, kt1i, kt2i, kt3i, kt4i, kt5i⟩, ft0i, ft1i, ft2i, ft3i, ft4i, ft5i⟩ := cells6 (H8.out.get 0 rfl)) | (refine store_bag H8.out 2 4 rfl ?_; intro wy h_; have HY := za h_; clear h_) | (refine store_bag HY.out 1 5 rfl ?_; intro wz h_; have HZ := za h_; clear h_))
   refine bodyPost_ret (results_cc rfl _ _ r1 r2 29 36 _ _ (0, 0) (0, 0) _ _ rfl (HZ.out.get 2 rfl) Try.underlying29 rfl zG83 rfl (HZ.out.get 1 rfl) Try.underlying36 rfl zG83) rfl ?_
   have HF := HZ.out.finV (P0 := P0) (fun k_ hk => hk.1.elim (HP.out k_) (fun hh => .inr (Nat.le_trans H5.out.kept.1 hh)))
   first | exact ⟨_, rfl, HF.1, HF.2.1, HF.2.2⟩ | exact ⟨rfl, _, HF.1, HF.2.1, HF.2.2⟩
  rw [if_pos g0] at h
  have g0b := decide_eq_true g0
  have g0b' : decide (t0 < x3) = true := decide_eq_true g0
  clear g0
  go_upto_region 7 with (fail)
  try go_wp2
  have HD_ := za H4.out.drew
  refine start_ (n := 7) (S := fun w' => w'.cell? ⟨xb, 1, none⟩ = some (.string x1) ∧ w'.cell? ⟨xb, 3, none⟩ = some (.int .i64 x3) ∧ w'.cell? ⟨sb, 0, none⟩ = some (.int .i64 d0) ∧ w'.cell? ⟨sb, 1, none⟩ = some (.int .i64 d1) ∧ w'.cell? ⟨sb, 2, none⟩ = some (.int .i64 d2) ∧ w'.cell? ⟨sb, 3, none⟩ = some (.int .i64 d3) ∧ w'.cell? ⟨sb, 4, none⟩ = some (.int .i64 d4) ∧ w'.cell? ⟨sb, 5, none⟩ = some (.slice A l.length cu)) (ds := []) (zM 7 0) zG83 rfl rfl ⟨(HD_.out.cell 2 rfl 1).trans rfl, (HD_.out.cell 2 rfl 3).trans rfl, (HD_.out.cell 3 rfl 0).trans rfl, (HD_.out.cell 3 rfl 1).trans rfl, (HD_.out.cell 3 rfl 2).trans rfl, (HD_.out.cell 3 rfl 3).trans rfl, (HD_.out.cell 3 rfl 4).trans rfl, (HD_.out.cell 3 rfl 5).trans rfl⟩ (fun hHeld => ?_)
  refine with_tabW sact.tab7 sact.bits7 (fun HT_ HW_ => ?_)
  generalize w4.drew = wd_ at HD_ hHeld ⊢
  refine zP 0 26 (zM 7 1) HT_ ?_
  refine zQ 1 27 (zM 7 3) HT_ HW_ hHeld ?_
  refine zQ 2 28 (zM 7 7) HT_ HW_ hHeld ?_
  refine zP 3 29 (zM 7 15) HT_ ?_
  refine zQ 4 30 (zM 7 31) HT_ HW_ hHeld ?_
  refine one_ (i := 5) (N := some 31) (zM 7 63) rfl rfl (one_of HT_.out zG83) zG84 (fun K hK => ?_)
  refine goes_ Try.func42 zG83 rfl #[.agg (zs6 d0 d1 d2 d3 d4 (.slice A l.length cu)), .string x1, .int .i64 0] (by rfl) rfl rfl zK166 ?_
  with_reducible refine (spec_l14Units.calls k d0 d1 d2 d3 d4 _ _ l x1 0 t0 _ (q12a HD_.out.row).2.2 (q12a HD_.out.row).2.1 N0.out).mono ?_
  rintro e w5 ⟨rfl, hb9⟩
  refine ⟨_, rfl, ?_⟩
  have H5 := za (HD_.out.go hb9)
  clear hb9
  refine hK.out _ _ ⟨(H5.out.cell 2 rfl 1).trans rfl, (H5.out.cell 2 rfl 3).trans rfl, (H5.out.cell 3 rfl 0).trans rfl, (H5.out.cell 3 rfl 1).trans rfl, (H5.out.cell 3 rfl 2).trans rfl, (H5.out.cell 3 rfl 3).trans rfl, (H5.out.cell 3 rfl 4).trans rfl, (H5.out.cell 3 rfl 5).trans rfl⟩ (fun hHeld => ?_)
  clear hK K
  refine norm_ (a' := ?_) ?_ ?_
  rotate_left
  ·show Act.put _ (some 31) _ = _
   simp only [Act.put, List.setIfInBounds_toArray, List.set_cons_zero, List.set_cons_succ, i64_w, i32_w]
   rfl
  refine zP 6 32 (zM 7 127) HT_ ?_
  refine done_ (done_of HT_.out zG83) ?_
  clear HD_ hHeld
  clear H4 kb0e fb0e kb1e fb1e ka0e fa0e ka1e fa1e ka2e fa2e ka3e fa3e ka4e fa4e ka5e fa5e kx0e fx0e kx1e fx1e kx2e fx2e kx3e fx3e kx4e fx4e ks0e fs0e ks1e fs1e ks2e fs2e ks3e fs3e ks4e fs4e ks5e fs5e
  obtain ⟨⟨kb0f, kb1f⟩, fb0f, fb1f⟩ := cells2 (H5.out.get 0 rfl)
  obtain ⟨⟨ka0f, ka1f, ka2f, ka3f, ka4f, ka5f⟩, fa0f, fa1f, fa2f, fa3f, fa4f, fa5f⟩ := cells6 (H5.out.get 1 rfl)
  obtain ⟨⟨kx0f, kx1f, kx2f, kx3f, kx4f⟩, fx0f, fx1f, fx2f, fx3f, fx4f⟩ := cells5 (H5.out.get 2 rfl)
  obtain ⟨⟨ks0f, ks1f, ks2f, ks3f, ks4f, ks5f⟩, fs0f, fs1f, fs2f, fs3f, fs4f, fs5f⟩ := cells6 (H5.out.get 3 rfl)
  replace h := Option.bind_eq_some_iff.mp h
  obtain ⟨t1, a1, h⟩ := h
  have N1 := za a1
  clear a1
  by_cases g1 : x3 ≤ t1
  ·rw [if_pos g1] at h
   have g1b := decide_eq_true g1
   clear g1
   simp only [Option.some.injEq, Prod.mk.injEq] at h
   obtain ⟨rfl, rfl, rfl, rfl, rfl, rfl, rfl, rfl⟩ := h
   go_upto_region 9 with (fail)
   try go_wp2
   have HD_ := za H5.out.drew
   refine start_ (n := 7) (S := fun w' => w'.cell? ⟨xb, 1, none⟩ = some (.string x1) ∧ w'.cell? ⟨xb, 3, none⟩ = some (.int .i64 x3) ∧ w'.cell? ⟨sb, 0, none⟩ = some (.int .i64 d0) ∧ w'.cell? ⟨sb, 1, none⟩ = some (.int .i64 d1) ∧ w'.cell? ⟨sb, 2, none⟩ = some (.int .i64 d2) ∧ w'.cell? ⟨sb, 3, none⟩ = some (.int .i64 d3) ∧ w'.cell? ⟨sb, 4, none⟩ = some (.int .i64 d4) ∧ w'.cell? ⟨sb, 5, none⟩ = some (.slice A l.length cu)) (ds := []) (zM 7 0) zG83 rfl rfl ⟨(HD_.out.cell 2 rfl 1).trans rfl, (HD_.out.cell 2 rfl 3).trans rfl, (HD_.out.cell 3 rfl 0).trans rfl, (HD_.out.cell 3 rfl 1).trans rfl, (HD_.out.cell 3 rfl 2).trans rfl, (HD_.out.cell 3 rfl 3).trans rfl, (HD_.out.cell 3 rfl 4).trans rfl, (HD_.out.cell 3 rfl 5).trans rfl⟩ (fun hHeld => ?_)
   refine with_tabW sact.tab9 sact.bits9 (fun HT_ HW_ => ?_)
   generalize w5.drew = wd_ at HD_ hHeld ⊢
   refine zP 0 33 (zM 7 1) HT_ ?_
   refine zQ 1 34 (zM 7 3) HT_ HW_ hHeld ?_
   refine zQ 2 35 (zM 7 7) HT_ HW_ hHeld ?_
   refine zP 3 36 (zM 7 15) HT_ ?_
   refine zQ 4 37 (zM 7 31) HT_ HW_ hHeld ?_
   refine one_ (i := 5) (N := some 38) (zM 7 63) rfl rfl (one_of HT_.out zG83) zG84 (fun K hK => ?_)
   refine goes_ Try.func42 zG83 rfl #[.agg (zs6 d0 d1 d2 d3 d4 (.slice A l.length cu)), .string x1, .int .i64 1] (by rfl) rfl rfl zK166 ?_
   with_reducible refine (spec_l14Units.calls k d0 d1 d2 d3 d4 _ _ l x1 1 t1 _ (q12a HD_.out.row).2.2 (q12a HD_.out.row).2.1 N1.out).mono ?_
   rintro e w6 ⟨rfl, hb9⟩
   refine ⟨_, rfl, ?_⟩
   have H6 := za (HD_.out.go hb9)
   clear hb9
   refine hK.out _ _ ⟨(H6.out.cell 2 rfl 1).trans rfl, (H6.out.cell 2 rfl 3).trans rfl, (H6.out.cell 3 rfl 0).trans rfl, (H6.out.cell 3 rfl 1).trans rfl, (H6.out.cell 3 rfl 2).trans rfl, (H6.out.cell 3 rfl 3).trans rfl, (H6.out.cell 3 rfl 4).trans rfl, (H6.out.cell 3 rfl 5).trans rfl⟩ (fun hHeld => ?_)
   clear hK K
   refine norm_ (a' := ?_) ?_ ?_
   rotate_left
   ·show Act.put _ (some 38) _ = _
    simp only [Act.put, List.setIfInBounds_toArray, List.set_cons_zero, List.set_cons_succ, i64_w, i32_w]
    rfl
   refine zP 6 39 (zM 7 127) HT_ ?_
   refine done_ (done_of HT_.out zG83) ?_
   clear HD_ hHeld
   clear H5 kb0f fb0f kb1f fb1f ka0f fa0f ka1f fa1f ka2f fa2f ka3f fa3f ka4f fa4f ka5f fa5f kx0f fx0f kx1f fx1f kx2f fx2f kx3f fx3f kx4f fx4f ks0f fs0f ks1f fs1f ks2f fs2f ks3f fs3f ks4f fs4f ks5f fs5f
   obtain ⟨⟨kb0g, kb1g⟩, fb0g, fb1g⟩ := cells2 (H6.out.get 0 rfl)
   obtain ⟨⟨ka0g, ka1g, ka2g, ka3g, ka4g, ka5g⟩, fa0g, fa1g, fa2g, fa3g, fa4g, fa5g⟩ := cells6 (H6.out.get 1 rfl)
   obtain ⟨⟨kx0g, kx1g, kx2g, kx3g, kx4g⟩, fx0g, fx1g, fx2g, fx3g, fx4g⟩ := cells5 (H6.out.get 2 rfl)
   obtain ⟨⟨ks0g, ks1g, ks2g, ks3g, ks4g, ks5g⟩, fs0g, fs1g, fs2g, fs3g, fs4g, fs5g⟩ := cells6 (H6.out.get 3 rfl)
   go_wp2_with (first | (refine store_bag H6.out 1 4 rfl ?_; intro wy h_; have HY := za h_; clear h_) | (refine store_bag HY.out 0 5 rfl ?_; intro wz h_; have HZ := za h_; clear h_))
   refine bodyPost_ret (results_cc rfl _ _ r1 r2 29 36 _ _ (0, 0) (0, 0) _ _ rfl (HZ.out.get 1 rfl) Try.underlying29 rfl zG83 rfl (HZ.out.get 0 rfl) Try.underlying36 rfl zG83) rfl ?_
   have HF := HZ.out.finV (P0 := P0) HP.out
   first | exact ⟨_, rfl, HF.1, HF.2.1, HF.2.2⟩ | exact ⟨rfl, _, HF.1, HF.2.1, HF.2.2⟩
  rw [if_neg g1] at h
  have g1b := decide_eq_false g1
  clear g1
  go_upto_region 9 with (fail)
  try go_wp2
  have HD_ := za H5.out.drew
  refine start_ (n := 7) (S := fun w' => w'.cell? ⟨xb, 1, none⟩ = some (.string x1) ∧ w'.cell? ⟨xb, 3, none⟩ = some (.int .i64 x3) ∧ w'.cell? ⟨sb, 0, none⟩ = some (.int .i64 d0) ∧ w'.cell? ⟨sb, 1, none⟩ = some (.int .i64 d1) ∧ w'.cell? ⟨sb, 2, none⟩ = some (.int .i64 d2) ∧ w'.cell? ⟨sb, 3, none⟩ = some (.int .i64 d3) ∧ w'.cell? ⟨sb, 4, none⟩ = some (.int .i64 d4) ∧ w'.cell? ⟨sb, 5, none⟩ = some (.slice A l.length cu)) (ds := []) (zM 7 0) zG83 rfl rfl ⟨(HD_.out.cell 2 rfl 1).trans rfl, (HD_.out.cell 2 rfl 3).trans rfl, (HD_.out.cell 3 rfl 0).trans rfl, (HD_.out.cell 3 rfl 1).trans rfl, (HD_.out.cell 3 rfl 2).trans rfl, (HD_.out.cell 3 rfl 3).trans rfl, (HD_.out.cell 3 rfl 4).trans rfl, (HD_.out.cell 3 rfl 5).trans rfl⟩ (fun hHeld => ?_)
  refine with_tabW sact.tab9 sact.bits9 (fun HT_ HW_ => ?_)
  generalize w5.drew = wd_ at HD_ hHeld ⊢
  refine zP 0 33 (zM 7 1) HT_ ?_
  refine zQ 1 34 (zM 7 3) HT_ HW_ hHeld ?_
  refine zQ 2 35 (zM 7 7) HT_ HW_ hHeld ?_
  refine zP 3 36 (zM 7 15) HT_ ?_
  refine zQ 4 37 (zM 7 31) HT_ HW_ hHeld ?_
  refine one_ (i := 5) (N := some 38) (zM 7 63) rfl rfl (one_of HT_.out zG83) zG84 (fun K hK => ?_)
  refine goes_ Try.func42 zG83 rfl #[.agg (zs6 d0 d1 d2 d3 d4 (.slice A l.length cu)), .string x1, .int .i64 1] (by rfl) rfl rfl zK166 ?_
  with_reducible refine (spec_l14Units.calls k d0 d1 d2 d3 d4 _ _ l x1 1 t1 _ (q12a HD_.out.row).2.2 (q12a HD_.out.row).2.1 N1.out).mono ?_
  rintro e w6 ⟨rfl, hb9⟩
  refine ⟨_, rfl, ?_⟩
  have H6 := za (HD_.out.go hb9)
  clear hb9
  refine hK.out _ _ ⟨(H6.out.cell 2 rfl 1).trans rfl, (H6.out.cell 2 rfl 3).trans rfl, (H6.out.cell 3 rfl 0).trans rfl, (H6.out.cell 3 rfl 1).trans rfl, (H6.out.cell 3 rfl 2).trans rfl, (H6.out.cell 3 rfl 3).trans rfl, (H6.out.cell 3 rfl 4).trans rfl, (H6.out.cell 3 rfl 5).trans rfl⟩ (fun hHeld => ?_)
  clear hK K
  refine norm_ (a' := ?_) ?_ ?_
  rotate_left
  ·show Act.put _ (some 38) _ = _
   simp only [Act.put, List.setIfInBounds_toArray, List.set_cons_zero, List.set_cons_succ, i64_w, i32_w]
   rfl
  refine zP 6 39 (zM 7 127) HT_ ?_
  refine done_ (done_of HT_.out zG83) ?_
  clear HD_ hHeld
  clear H5 kb0f fb0f kb1f fb1f ka0f fa0f ka1f fa1f ka2f fa2f ka3f fa3f ka4f fa4f ka5f fa5f kx0f fx0f kx1f fx1f kx2f fx2f kx3f fx3f kx4f fx4f ks0f fs0f ks1f fs1f ks2f fs2f ks3f fs3f ks4f fs4f ks5f fs5f
  obtain ⟨⟨kb0g, kb1g⟩, fb0g, fb1g⟩ := cells2 (H6.out.get 0 rfl)
  obtain ⟨⟨ka0g, ka1g, ka2g, ka3g, ka4g, ka5g⟩, fa0g, fa1g, fa2g, fa3g, fa4g, fa5g⟩ := cells6 (H6.out.get 1 rfl)
  obtain ⟨⟨kx0g, kx1g, kx2g, kx3g, kx4g⟩, fx0g, fx1g, fx2g, fx3g, fx4g⟩ := cells5 (H6.out.get 2 rfl)
  obtain ⟨⟨ks0g, ks1g, ks2g, ks3g, ks4g, ks5g⟩, fs0g, fs1g, fs2g, fs3g, fs4g, fs5g⟩ := cells6 (H6.out.get 3 rfl)
  replace h := Option.bind_eq_some_iff.mp h
  obtain ⟨t2, a1, h⟩ := h
  have N2 := za a1
  clear a1
  by_cases g2 : x3 ≤ t2
  ·rw [if_pos g2] at h
   have g2b := decide_eq_true g2
   clear g2
   simp only [Option.some.injEq, Prod.mk.injEq] at h
   obtain ⟨rfl, rfl, rfl, rfl, rfl, rfl, rfl, rfl⟩ := h
   go_upto_region 11 with (fail)
   try go_wp2
   have HD_ := za H6.out.drew
   refine start_ (n := 7) (S := fun w' => w'.cell? ⟨xb, 1, none⟩ = some (.string x1) ∧ w'.cell? ⟨xb, 3, none⟩ = some (.int .i64 x3) ∧ w'.cell? ⟨sb, 0, none⟩ = some (.int .i64 d0) ∧ w'.cell? ⟨sb, 1, none⟩ = some (.int .i64 d1) ∧ w'.cell? ⟨sb, 2, none⟩ = some (.int .i64 d2) ∧ w'.cell? ⟨sb, 3, none⟩ = some (.int .i64 d3) ∧ w'.cell? ⟨sb, 4, none⟩ = some (.int .i64 d4) ∧ w'.cell? ⟨sb, 5, none⟩ = some (.slice A l.length cu)) (ds := []) (zM 7 0) zG83 rfl rfl ⟨(HD_.out.cell 2 rfl 1).trans rfl, (HD_.out.cell 2 rfl 3).trans rfl, (HD_.out.cell 3 rfl 0).trans rfl, (HD_.out.cell 3 rfl 1).trans rfl, (HD_.out.cell 3 rfl 2).trans rfl, (HD_.out.cell 3 rfl 3).trans rfl, (HD_.out.cell 3 rfl 4).trans rfl, (HD_.out.cell 3 rfl 5).trans rfl⟩ (fun hHeld => ?_)
   refine with_tabW sact.tab11 sact.bits11 (fun HT_ HW_ => ?_)
   generalize w6.drew = wd_ at HD_ hHeld ⊢
   refine zP 0 40 (zM 7 1) HT_ ?_
   refine zQ 1 41 (zM 7 3) HT_ HW_ hHeld ?_
   refine zQ 2 42 (zM 7 7) HT_ HW_ hHeld ?_
   refine zP 3 43 (zM 7 15) HT_ ?_
   refine zQ 4 44 (zM 7 31) HT_ HW_ hHeld ?_
   refine one_ (i := 5) (N := some 45) (zM 7 63) rfl rfl (one_of HT_.out zG83) zG84 (fun K hK => ?_)
   refine goes_ Try.func42 zG83 rfl #[.agg (zs6 d0 d1 d2 d3 d4 (.slice A l.length cu)), .string x1, .int .i64 2] (by rfl) rfl rfl zK166 ?_
   with_reducible refine (spec_l14Units.calls k d0 d1 d2 d3 d4 _ _ l x1 2 t2 _ (q12a HD_.out.row).2.2 (q12a HD_.out.row).2.1 N2.out).mono ?_
   rintro e w7 ⟨rfl, hb9⟩
   refine ⟨_, rfl, ?_⟩
   have H7 := za (HD_.out.go hb9)
   clear hb9
   refine hK.out _ _ ⟨(H7.out.cell 2 rfl 1).trans rfl, (H7.out.cell 2 rfl 3).trans rfl, (H7.out.cell 3 rfl 0).trans rfl, (H7.out.cell 3 rfl 1).trans rfl, (H7.out.cell 3 rfl 2).trans rfl, (H7.out.cell 3 rfl 3).trans rfl, (H7.out.cell 3 rfl 4).trans rfl, (H7.out.cell 3 rfl 5).trans rfl⟩ (fun hHeld => ?_)
   clear hK K
   refine norm_ (a' := ?_) ?_ ?_
   rotate_left
   ·show Act.put _ (some 45) _ = _
    simp only [Act.put, List.setIfInBounds_toArray, List.set_cons_zero, List.set_cons_succ, i64_w, i32_w]
    rfl
   refine zP 6 46 (zM 7 127) HT_ ?_
   refine done_ (done_of HT_.out zG83) ?_
   clear HD_ hHeld
   clear H6 kb0g fb0g kb1g fb1g ka0g fa0g ka1g fa1g ka2g fa2g ka3g fa3g ka4g fa4g ka5g fa5g kx0g fx0g kx1g fx1g kx2g fx2g kx3g fx3g kx4g fx4g ks0g fs0g ks1g fs1g ks2g fs2g ks3g fs3g ks4g fs4g ks5g fs5g
   obtain ⟨⟨kb0h, kb1h⟩, fb0h, fb1h⟩ := cells2 (H7.out.get 0 rfl)
   obtain ⟨⟨ka0h, ka1h, ka2h, ka3h, ka4h, ka5h⟩, fa0h, fa1h, fa2h, fa3h, fa4h, fa5h⟩ := cells6 (H7.out.get 1 rfl)
   obtain ⟨⟨kx0h, kx1h, kx2h, kx3h, kx4h⟩, fx0h, fx1h, fx2h, fx3h, fx4h⟩ := cells5 (H7.out.get 2 rfl)
   obtain ⟨⟨ks0h, ks1h, ks2h, ks3h, ks4h, ks5h⟩, fs0h, fs1h, fs2h, fs3h, fs4h, fs5h⟩ := cells6 (H7.out.get 3 rfl)
   go_wp2_with (first | (refine store_bag H7.out 1 4 rfl ?_; intro wy h_; have HY := za h_; clear h_) | (refine store_bag HY.out 0 5 rfl ?_; intro wz h_; have HZ := za h_; clear h_))
   refine bodyPost_ret (results_cc rfl _ _ r1 r2 29 36 _ _ (0, 0) (0, 0) _ _ rfl (HZ.out.get 1 rfl) Try.underlying29 rfl zG83 rfl (HZ.out.get 0 rfl) Try.underlying36 rfl zG83) rfl ?_
   have HF := HZ.out.finV (P0 := P0) HP.out
   first | exact ⟨_, rfl, HF.1, HF.2.1, HF.2.2⟩ | exact ⟨rfl, _, HF.1, HF.2.1, HF.2.2⟩
  ·rw [if_neg g2] at h
   have g2b := decide_eq_false g2
   clear g2
   simp only [Option.some.injEq, Prod.mk.injEq] at h
   obtain ⟨rfl, rfl, rfl, rfl, rfl, rfl, rfl, rfl⟩ := h
   go_upto_region 11 with (fail)
   try go_wp2
   have HD_ := za H6.out.drew
   refine start_ (n := 7) (S := fun w' => w'.cell? ⟨xb, 1, none⟩ = some (.string x1) ∧ w'.cell? ⟨xb, 3, none⟩ = some (.int .i64 x3) ∧ w'.cell? ⟨sb, 0, none⟩ = some (.int .i64 d0) ∧ w'.cell? ⟨sb, 1, none⟩ = some (.int .i64 d1) ∧ w'.cell? ⟨sb, 2, none⟩ = some (.int .i64 d2) ∧ w'.cell? ⟨sb, 3, none⟩ = some (.int .i64 d3) ∧ w'.cell? ⟨sb, 4, none⟩ = some (.int .i64 d4) ∧ w'.cell? ⟨sb, 5, none⟩ = some (.slice A l.length cu)) (ds := []) (zM 7 0) zG83 rfl rfl ⟨(HD_.out.cell 2 rfl 1).trans rfl, (HD_.out.cell 2 rfl 3).trans rfl, (HD_.out.cell 3 rfl 0).trans rfl, (HD_.out.cell 3 rfl 1).trans rfl, (HD_.out.cell 3 rfl 2).trans rfl, (HD_.out.cell 3 rfl 3).trans rfl, (HD_.out.cell 3 rfl 4).trans rfl, (HD_.out.cell 3 rfl 5).trans rfl⟩ (fun hHeld => ?_)
   refine with_tabW sact.tab11 sact.bits11 (fun HT_ HW_ => ?_)
   generalize w6.drew = wd_ at HD_ hHeld ⊢
   refine zP 0 40 (zM 7 1) HT_ ?_
   refine zQ 1 41 (zM 7 3) HT_ HW_ hHeld ?_
   refine zQ 2 42 (zM 7 7) HT_ HW_ hHeld ?_
   refine zP 3 43 (zM 7 15) HT_ ?_
   refine zQ 4 44 (zM 7 31) HT_ HW_ hHeld ?_
   refine one_ (i := 5) (N := some 45) (zM 7 63) rfl rfl (one_of HT_.out zG83) zG84 (fun K hK => ?_)
   refine goes_ Try.func42 zG83 rfl #[.agg (zs6 d0 d1 d2 d3 d4 (.slice A l.length cu)), .string x1, .int .i64 2] (by rfl) rfl rfl zK166 ?_
   with_reducible refine (spec_l14Units.calls k d0 d1 d2 d3 d4 _ _ l x1 2 t2 _ (q12a HD_.out.row).2.2 (q12a HD_.out.row).2.1 N2.out).mono ?_
   rintro e w7 ⟨rfl, hb9⟩
   refine ⟨_, rfl, ?_⟩
   have H7 := za (HD_.out.go hb9)
   clear hb9
   refine hK.out _ _ ⟨(H7.out.cell 2 rfl 1).trans rfl, (H7.out.cell 2 rfl 3).trans rfl, (H7.out.cell 3 rfl 0).trans rfl, (H7.out.cell 3 rfl 1).trans rfl, (H7.out.cell 3 rfl 2).trans rfl, (H7.out.cell 3 rfl 3).trans rfl, (H7.out.cell 3 rfl 4).trans rfl, (H7.out.cell 3 rfl 5).trans rfl⟩ (fun hHeld => ?_)
   clear hK K
   refine norm_ (a' := ?_) ?_ ?_
   rotate_left
   ·show Act.put _ (some 45) _ = _
    simp only [Act.put, List.setIfInBounds_toArray, List.set_cons_zero, List.set_cons_succ, i64_w, i32_w]
    rfl
   refine zP 6 46 (zM 7 127) HT_ ?_
   refine done_ (done_of HT_.out zG83) ?_
   clear HD_ hHeld
   clear H6 kb0g fb0g kb1g fb1g ka0g fa0g ka1g fa1g ka2g fa2g ka3g fa3g ka4g fa4g ka5g fa5g kx0g fx0g kx1g fx1g kx2g fx2g kx3g fx3g kx4g fx4g ks0g fs0g ks1g fs1g ks2g fs2g ks3g fs3g ks4g fs4g ks5g fs5g
   obtain ⟨⟨kb0h, kb1h⟩, fb0h, fb1h⟩ := cells2 (H7.out.get 0 rfl)
   obtain ⟨⟨ka0h, ka1h, ka2h, ka3h, ka4h, ka5h⟩, fa0h, fa1h, fa2h, fa3h, fa4h, fa5h⟩ := cells6 (H7.out.get 1 rfl)
   obtain ⟨⟨kx0h, kx1h, kx2h, kx3h, kx4h⟩, fx0h, fx1h, fx2h, fx3h, fx4h⟩ := cells5 (H7.out.get 2 rfl)
   obtain ⟨⟨ks0h, ks1h, ks2h, ks3h, ks4h, ks5h⟩, fs0h, fs1h, fs2h, fs3h, fs4h, fs5h⟩ := cells6 (H7.out.get 3 rfl)
   go_wp2_with (first | (refine store_bag H7.out 1 4 rfl ?_; intro wy h_; have HY := za h_; clear h_) | (refine store_bag HY.out 0 5 rfl ?_; intro wz h_; have HZ := za h_; clear h_))
   refine bodyPost_ret (results_cc rfl _ _ r1 r2 29 36 _ _ (0, 0) (0, 0) _ _ rfl (HZ.out.get 1 rfl) Try.underlying29 rfl zG83 rfl (HZ.out.get 0 rfl) Try.underlying36 rfl zG83) rfl ?_
   have HF := HZ.out.finV (P0 := P0) HP.out
   first | exact ⟨_, rfl, HF.1, HF.2.1, HF.2.2⟩ | exact ⟨rfl, _, HF.1, HF.2.1, HF.2.2⟩
 rw [if_neg k2] at h
 have e2 : (x0 == 2) = false := beq_eq_false_iff_ne.mpr k2
 by_cases k3 : x0 = 3
 ·subst k3
  rw [if_pos rfl] at h
  clear k1 k2 e1 e2
  replace h := Option.bind_eq_some_iff.mp h
  obtain ⟨t, a5, h⟩ := h
  have A5 := za a5
  clear a5
  cases t with
  | false =>
   simp only [Bool.false_eq_true, if_false, Option.some.injEq, Prod.mk.injEq] at h
   obtain ⟨rfl, rfl, rfl, rfl, rfl, rfl, rfl, rfl⟩ := h
   go_upto_region 18 with (first | (go_at_call 44; with_reducible refine (spec_l01In.calls x3 d0 100000 false _ A5.out).mono ?_; rintro e w5 ⟨rfl, hd⟩; have H5 := za (H4.out.drawn hd); clear hd; obtain ⟨⟨kb0f, kb1f⟩, fb0f, fb1f⟩ := cells2 (H5.out.get 0 rfl); obtain ⟨⟨ka0f, ka1f, ka2f, ka3f, ka4f, ka5f⟩, fa0f, fa1f, fa2f, fa3f, fa4f, fa5f⟩ := cells6 (H5.out.get 1 rfl); obtain ⟨⟨kx0f, kx1f, kx2f, kx3f, kx4f⟩, fx0f, fx1f, fx2f, fx3f, fx4f⟩ := cells5 (H5.out.get 2 rfl); obtain ⟨⟨ks0f, ks1f, ks2f, ks3f, ks4f, ks5f⟩, fs0f, fs1f, fs2f, fs3f, fs4f, fs5f⟩ := cells6 (H5.out.get 3 rfl)))
   go_wp2_with (first | (refine store_bag H5.out 1 4 rfl ?_; intro wy h_; have HY := za h_; clear h_) | (refine store_bag HY.out 0 5 rfl ?_; intro wz h_; have HZ := za h_; clear h_))
   refine bodyPost_ret (results_cc rfl _ _ r1 r2 29 36 _ _ (0, 0) (0, 0) _ _ rfl (HZ.out.get 1 rfl) Try.underlying29 rfl zG83 rfl (HZ.out.get 0 rfl) Try.underlying36 rfl zG83) rfl ?_
   have HF := HZ.out.finV (P0 := P0) HP.out
   first | exact ⟨_, rfl, HF.1, HF.2.1, HF.2.2⟩ | exact ⟨rfl, _, HF.1, HF.2.1, HF.2.2⟩
  | true =>
   rw [if_pos rfl] at h
   simp only [Option.some.injEq, Prod.mk.injEq] at h
   obtain ⟨rfl, rfl, rfl, rfl, rfl, rfl, rfl, rfl⟩ := h
   go_upto_region 19 with (first | (go_at_call 44; with_reducible refine (spec_l01In.calls x3 d0 100000 true _ A5.out).mono ?_; rintro e w5 ⟨rfl, hd⟩; have H5 := za (H4.out.drawn hd); clear hd; obtain ⟨⟨kb0f, kb1f⟩, fb0f, fb1f⟩ := cells2 (H5.out.get 0 rfl); obtain ⟨⟨ka0f, ka1f, ka2f, ka3f, ka4f, ka5f⟩, fa0f, fa1f, fa2f, fa3f, fa4f, fa5f⟩ := cells6 (H5.out.get 1 rfl); obtain ⟨⟨kx0f, kx1f, kx2f, kx3f, kx4f⟩, fx0f, fx1f, fx2f, fx3f, fx4f⟩ := cells5 (H5.out.get 2 rfl); obtain ⟨⟨ks0f, ks1f, ks2f, ks3f, ks4f, ks5f⟩, fs0f, fs1f, fs2f, fs3f, fs4f, fs5f⟩ := cells6 (H5.out.get 3 rfl)))
   clear H4 kb0e fb0e kb1e fb1e ka0e fa0e ka1e fa1e ka2e fa2e ka3e fa3e ka4e fa4e ka5e fa5e kx0e fx0e kx1e fx1e kx2e fx2e kx3e fx3e kx4e fx4e ks0e fs0e ks1e fs1e ks2e fs2e ks3e fs3e ks4e fs4e ks5e fs5e
   go_upto_region 20 with (fail)
   have H6 : Aside0 (Bag k38 38 w0 w (fun k => P0 k ∧ k < w.heap.size) w.heap.size (.slice A l.length cu) l [(r2, (zo2 0 0), 36), (r1, (zs6 0 0 0 0 0 (.slice none 0 0)), 29), (xb, #[(.int .i64 3), .string x1, .int .i64 x2, .int .i64 x3, .int .i64 x4], 34), (sb, (zs6 x3 d1 d2 d3 d4 (.slice A l.length cu)), 29)] (w5.setCell ⟨sb, 0, none⟩ (.int .i64 x3))) := ⟨H5.out.put 3 0 (.int .i64 x3) rfl rfl⟩
   generalize (w5.setCell ⟨sb, 0, none⟩ (.int .i64 x3)) = w6 at H6 ⊢
   clear kb0f fb0f kb1f fb1f ka0f fa0f ka1f fa1f ka2f fa2f ka3f fa3f ka4f fa4f ka5f fa5f kx0f fx0f kx1f fx1f kx2f fx2f kx3f fx3f kx4f fx4f ks0f fs0f ks1f fs1f ks2f fs2f ks3f fs3f ks4f fs4f ks5f fs5f
   obtain ⟨⟨kb0g, kb1g⟩, fb0g, fb1g⟩ := cells2 (H6.out.get 0 rfl)
   obtain ⟨⟨ka0g, ka1g, ka2g, ka3g, ka4g, ka5g⟩, fa0g, fa1g, fa2g, fa3g, fa4g, fa5g⟩ := cells6 (H6.out.get 1 rfl)
   obtain ⟨⟨kx0g, kx1g, kx2g, kx3g, kx4g⟩, fx0g, fx1g, fx2g, fx3g, fx4g⟩ := cells5 (H6.out.get 2 rfl)
   obtain ⟨⟨ks0g, ks1g, ks2g, ks3g, ks4g, ks5g⟩, fs0g, fs1g, fs2g, fs3g, fs4g, fs5g⟩ := cells6 (H6.out.get 3 rfl)
   have n_sb_r1 : ¬ sb = r1 := H6.out.ne 3 1 rfl rfl zG84
   have n_sb_r2 : ¬ sb = r2 := H6.out.ne 3 0 rfl rfl zG84
   have n_xb_r1 : ¬ xb = r1 := H6.out.ne 2 1 rfl rfl zG84
   have n_xb_r2 : ¬ xb = r2 := H6.out.ne 2 0 rfl rfl zG84
   have n_r2_r1 : ¬ r2 = r1 := H6.out.ne 0 1 rfl rfl zG84
   try go_wp2
   go_region
   have HZ := za ((H6.out.puts (i := 1) [.int .i64 x3, .int .i64 d1, .int .i64 d2, .int .i64 d3, .int .i64 d4, .slice A l.length cu] 0 rfl).puts (i := 0) [.int .i64 0, .int .i64 x3] 0 rfl).drew
   go_wp2
   refine bodyPost_ret (results_cc rfl _ _ r1 r2 29 36 _ _ (0, 0) (0, 0) _ _ rfl (HZ.out.get 1 rfl) Try.underlying29 rfl zG83 rfl (HZ.out.get 0 rfl) Try.underlying36 rfl zG83) rfl ?_
   have HF := HZ.out.finV (P0 := P0) HP.out
   first | exact ⟨_, rfl, HF.1, HF.2.1, HF.2.2⟩ | exact ⟨rfl, _, HF.1, HF.2.1, HF.2.2⟩
 rw [if_neg k3] at h
 have e3 : (x0 == 3) = false := beq_eq_false_iff_ne.mpr k3
 by_cases k4 : x0 = 4 ∨ x0 = 5 ∨ x0 = 6 ∨ x0 = 7
 ·rw [if_pos k4] at h
  replace h := Option.bind_eq_some_iff.mp h
  obtain ⟨ia, a5, h⟩ := h
  have N4 := za a5
  clear a5 k1 k2 k3 hz29 hz36
  have HC := za (spec_l14Find.calls k _ _ l x1 x2 ia _ (q12a H4.out.row).2.2 (q12a H4.out.row).2.1 N4.out)
  by_cases ka : ia < 0
  ·rw [if_pos ka] at h
   simp only [Option.some.injEq, Prod.mk.injEq] at h
   obtain ⟨rfl, rfl, rfl, rfl, rfl, rfl, rfl, rfl⟩ := h
   have kab := decide_eq_true ka
   clear ka
   rcases k4 with rfl | rfl | rfl | rfl
   ·go_upto_region 27 with (first | (go_at_call 45; with_reducible refine HC.out.mono ?_; rintro e w5 ⟨rfl, hd⟩; have H5 := za (H4.out.drawn hd); clear hd; obtain ⟨⟨kb0f, kb1f⟩, fb0f, fb1f⟩ := cells2 (H5.out.get 0 rfl); obtain ⟨⟨ka0f, ka1f, ka2f, ka3f, ka4f, ka5f⟩, fa0f, fa1f, fa2f, fa3f, fa4f, fa5f⟩ := cells6 (H5.out.get 1 rfl); obtain ⟨⟨kx0f, kx1f, kx2f, kx3f, kx4f⟩, fx0f, fx1f, fx2f, fx3f, fx4f⟩ := cells5 (H5.out.get 2 rfl); obtain ⟨⟨ks0f, ks1f, ks2f, ks3f, ks4f, ks5f⟩, fs0f, fs1f, fs2f, fs3f, fs4f, fs5f⟩ := cells6 (H5.out.get 3 rfl)))
    go_wp2_with (first | (refine store_bag H5.out 1 4 rfl ?_; intro wy h_; have HY := za h_; clear h_) | (refine store_bag HY.out 0 5 rfl ?_; intro wz h_; have HZ := za h_; clear h_))
    refine bodyPost_ret (results_cc rfl _ _ r1 r2 29 36 _ _ (0, 0) (0, 0) _ _ rfl (HZ.out.get 1 rfl) Try.underlying29 rfl zG83 rfl (HZ.out.get 0 rfl) Try.underlying36 rfl zG83) rfl ?_
    have HF := HZ.out.finV (P0 := P0) HP.out
    first | exact ⟨_, rfl, HF.1, HF.2.1, HF.2.2⟩ | exact ⟨rfl, _, HF.1, HF.2.1, HF.2.2⟩
   ·go_upto_region 27 with (first | (go_at_call 45; with_reducible refine HC.out.mono ?_; rintro e w5 ⟨rfl, hd⟩; have H5 := za (H4.out.drawn hd); clear hd; obtain ⟨⟨kb0f, kb1f⟩, fb0f, fb1f⟩ := cells2 (H5.out.get 0 rfl); obtain ⟨⟨ka0f, ka1f, ka2f, ka3f, ka4f, ka5f⟩, fa0f, fa1f, fa2f, fa3f, fa4f, fa5f⟩ := cells6 (H5.out.get 1 rfl); obtain ⟨⟨kx0f, kx1f, kx2f, kx3f, kx4f⟩, fx0f, fx1f, fx2f, fx3f, fx4f⟩ := cells5 (H5.out.get 2 rfl); obtain ⟨⟨ks0f, ks1f, ks2f, ks3f, ks4f, ks5f⟩, fs0f, fs1f, fs2f, fs3f, fs4f, fs5f⟩ := cells6 (H5.out.get 3 rfl)))
    go_wp2_with (first | (refine store_bag H5.out 1 4 rfl ?_; intro wy h_; have HY := za h_; clear h_) | (refine store_bag HY.out 0 5 rfl ?_; intro wz h_; have HZ := za h_; clear h_))
    refine bodyPost_ret (results_cc rfl _ _ r1 r2 29 36 _ _ (0, 0) (0, 0) _ _ rfl (HZ.out.get 1 rfl) Try.underlying29 rfl zG83 rfl (HZ.out.get 0 rfl) Try.underlying36 rfl zG83) rfl ?_
    have HF := HZ.out.finV (P0 := P0) HP.out
    first | exact ⟨_, rfl, HF.1, HF.2.1, HF.2.2⟩ | exact ⟨rfl, _, HF.1, HF.2.1, HF.2.2⟩
   ·go_upto_region 27 with (first | (go_at_call 45; with_reducible refine HC.out.mono ?_; rintro e w5 ⟨rfl, hd⟩; have H5 := za (H4.out.drawn hd); clear hd; obtain ⟨⟨kb0f, kb1f⟩, fb0f, fb1f⟩ := cells2 (H5.out.get 0 rfl); obtain ⟨⟨ka0f, ka1f, ka2f, ka3f, ka4f, ka5f⟩, fa0f, fa1f, fa2f, fa3f, fa4f, fa5f⟩ := cells6 (H5.out.get 1 rfl); obtain ⟨⟨kx0f, kx1f, kx2f, kx3f, kx4f⟩, fx0f, fx1f, fx2f, fx3f, fx4f⟩ := cells5 (H5.out.get 2 rfl); obtain ⟨⟨ks0f, ks1f, ks2f, ks3f, ks4f, ks5f⟩, fs0f, fs1f, fs2f, fs3f, fs4f, fs5f⟩ := cells6 (H5.out.get 3 rfl)))
    go_wp2_with (first | (refine store_bag H5.out 1 4 rfl ?_; intro wy h_; have HY := za h_; clear h_) | (refine store_bag HY.out 0 5 rfl ?_; intro wz h_; have HZ := za h_; clear h_))
    refine bodyPost_ret (results_cc rfl _ _ r1 r2 29 36 _ _ (0, 0) (0, 0) _ _ rfl (HZ.out.get 1 rfl) Try.underlying29 rfl zG83 rfl (HZ.out.get 0 rfl) Try.underlying36 rfl zG83) rfl ?_
    have HF := HZ.out.finV (P0 := P0) HP.out
    first | exact ⟨_, rfl, HF.1, HF.2.1, HF.2.2⟩ | exact ⟨rfl, _, HF.1, HF.2.1, HF.2.2⟩
   ·go_upto_region 27 with (first | (go_at_call 45; with_reducible refine HC.out.mono ?_; rintro e w5 ⟨rfl, hd⟩; have H5 := za (H4.out.drawn hd); clear hd; obtain ⟨⟨kb0f, kb1f⟩, fb0f, fb1f⟩ := cells2 (H5.out.get 0 rfl); obtain ⟨⟨ka0f, ka1f, ka2f, ka3f, ka4f, ka5f⟩, fa0f, fa1f, fa2f, fa3f, fa4f, fa5f⟩ := cells6 (H5.out.get 1 rfl); obtain ⟨⟨kx0f, kx1f, kx2f, kx3f, kx4f⟩, fx0f, fx1f, fx2f, fx3f, fx4f⟩ := cells5 (H5.out.get 2 rfl); obtain ⟨⟨ks0f, ks1f, ks2f, ks3f, ks4f, ks5f⟩, fs0f, fs1f, fs2f, fs3f, fs4f, fs5f⟩ := cells6 (H5.out.get 3 rfl)))
    go_wp2_with (first | (refine store_bag H5.out 1 4 rfl ?_; intro wy h_; have HY := za h_; clear h_) | (refine store_bag HY.out 0 5 rfl ?_; intro wz h_; have HZ := za h_; clear h_))
    refine bodyPost_ret (results_cc rfl _ _ r1 r2 29 36 _ _ (0, 0) (0, 0) _ _ rfl (HZ.out.get 1 rfl) Try.underlying29 rfl zG83 rfl (HZ.out.get 0 rfl) Try.underlying36 rfl zG83) rfl ?_
    have HF := HZ.out.finV (P0 := P0) HP.out
    first | exact ⟨_, rfl, HF.1, HF.2.1, HF.2.2⟩ | exact ⟨rfl, _, HF.1, HF.2.1, HF.2.2⟩
  rw [if_neg ka] at h
  have HX := za h
  have kab := decide_eq_false ka
  clear ka h
  rcases k4 with rfl | rfl | rfl | rfl
  ·go_upto_region 28 with (first | (go_at_call 45; with_reducible refine HC.out.mono ?_; rintro e w5 ⟨rfl, hd⟩; have H5 := za (H4.out.drawn hd); clear hd; obtain ⟨⟨kb0f, kb1f⟩, fb0f, fb1f⟩ := cells2 (H5.out.get 0 rfl); obtain ⟨⟨ka0f, ka1f, ka2f, ka3f, ka4f, ka5f⟩, fa0f, fa1f, fa2f, fa3f, fa4f, fa5f⟩ := cells6 (H5.out.get 1 rfl); obtain ⟨⟨kx0f, kx1f, kx2f, kx3f, kx4f⟩, fx0f, fx1f, fx2f, fx3f, fx4f⟩ := cells5 (H5.out.get 2 rfl); obtain ⟨⟨ks0f, ks1f, ks2f, ks3f, ks4f, ks5f⟩, fs0f, fs1f, fs2f, fs3f, fs4f, fs5f⟩ := cells6 (H5.out.get 3 rfl)))
   go_wp2_with (first | (go_at_call 46; with_reducible refine (spec_l14Lot.calls k d0 d1 d2 d3 d4 _ _ l 4 x1 x2 x3 x4 ia r1_ r2_ r3_ r4_ r5_ r6_ r7_ r8_ w0 w5 H5.out.below H5.out.row HX.out).mono ?_; rintro e w6 ⟨v6, rfl, hr9, hb9, hk9⟩; obtain ⟨A6, c6, rfl⟩ := zx hr9; have H6 := za (H5.out.handed hr9 hb9 hk9); clear hr9 hb9 hk9) | (refine store_bag H6.out 1 4 rfl ?_; intro wy h_; have HY := za h_; clear h_) | (refine store_bag HY.out 0 5 rfl ?_; intro wz h_; have HZ := za h_; clear h_))
   refine bodyPost_ret (results_cc rfl _ _ r1 r2 29 36 _ _ (0, 0) (0, 0) _ _ rfl (HZ.out.get 1 rfl) Try.underlying29 rfl zG83 rfl (HZ.out.get 0 rfl) Try.underlying36 rfl zG83) rfl ?_
   have HF := HZ.out.finV (P0 := P0) (fun k_ hk => hk.1.elim (HP.out k_) (fun hh => .inr (Nat.le_trans H5.out.kept.1 hh)))
   first | exact ⟨_, rfl, HF.1, HF.2.1, HF.2.2⟩ | exact ⟨rfl, _, HF.1, HF.2.1, HF.2.2⟩
  ·go_upto_region 28 with (first | (go_at_call 45; with_reducible refine HC.out.mono ?_; rintro e w5 ⟨rfl, hd⟩; have H5 := za (H4.out.drawn hd); clear hd; obtain ⟨⟨kb0f, kb1f⟩, fb0f, fb1f⟩ := cells2 (H5.out.get 0 rfl); obtain ⟨⟨ka0f, ka1f, ka2f, ka3f, ka4f, ka5f⟩, fa0f, fa1f, fa2f, fa3f, fa4f, fa5f⟩ := cells6 (H5.out.get 1 rfl); obtain ⟨⟨kx0f, kx1f, kx2f, kx3f, kx4f⟩, fx0f, fx1f, fx2f, fx3f, fx4f⟩ := cells5 (H5.out.get 2 rfl); obtain ⟨⟨ks0f, ks1f, ks2f, ks3f, ks4f, ks5f⟩, fs0f, fs1f, fs2f, fs3f, fs4f, fs5f⟩ := cells6 (H5.out.get 3 rfl)))
   go_wp2_with (first | (go_at_call 46; with_reducible refine (spec_l14Lot.calls k d0 d1 d2 d3 d4 _ _ l 5 x1 x2 x3 x4 ia r1_ r2_ r3_ r4_ r5_ r6_ r7_ r8_ w0 w5 H5.out.below H5.out.row HX.out).mono ?_; rintro e w6 ⟨v6, rfl, hr9, hb9, hk9⟩; obtain ⟨A6, c6, rfl⟩ := zx hr9; have H6 := za (H5.out.handed hr9 hb9 hk9); clear hr9 hb9 hk9) | (refine store_bag H6.out 1 4 rfl ?_; intro wy h_; have HY := za h_; clear h_) | (refine store_bag HY.out 0 5 rfl ?_; intro wz h_; have HZ := za h_; clear h_))
   refine bodyPost_ret (results_cc rfl _ _ r1 r2 29 36 _ _ (0, 0) (0, 0) _ _ rfl (HZ.out.get 1 rfl) Try.underlying29 rfl zG83 rfl (HZ.out.get 0 rfl) Try.underlying36 rfl zG83) rfl ?_
   have HF := HZ.out.finV (P0 := P0) (fun k_ hk => hk.1.elim (HP.out k_) (fun hh => .inr (Nat.le_trans H5.out.kept.1 hh)))
   first | exact ⟨_, rfl, HF.1, HF.2.1, HF.2.2⟩ | exact ⟨rfl, _, HF.1, HF.2.1, HF.2.2⟩
  ·go_upto_region 28 with (first | (go_at_call 45; with_reducible refine HC.out.mono ?_; rintro e w5 ⟨rfl, hd⟩; have H5 := za (H4.out.drawn hd); clear hd; obtain ⟨⟨kb0f, kb1f⟩, fb0f, fb1f⟩ := cells2 (H5.out.get 0 rfl); obtain ⟨⟨ka0f, ka1f, ka2f, ka3f, ka4f, ka5f⟩, fa0f, fa1f, fa2f, fa3f, fa4f, fa5f⟩ := cells6 (H5.out.get 1 rfl); obtain ⟨⟨kx0f, kx1f, kx2f, kx3f, kx4f⟩, fx0f, fx1f, fx2f, fx3f, fx4f⟩ := cells5 (H5.out.get 2 rfl); obtain ⟨⟨ks0f, ks1f, ks2f, ks3f, ks4f, ks5f⟩, fs0f, fs1f, fs2f, fs3f, fs4f, fs5f⟩ := cells6 (H5.out.get 3 rfl)))
   go_wp2_with (first | (go_at_call 46; with_reducible refine (spec_l14Lot.calls k d0 d1 d2 d3 d4 _ _ l 6 x1 x2 x3 x4 ia r1_ r2_ r3_ r4_ r5_ r6_ r7_ r8_ w0 w5 H5.out.below H5.out.row HX.out).mono ?_; rintro e w6 ⟨v6, rfl, hr9, hb9, hk9⟩; obtain ⟨A6, c6, rfl⟩ := zx hr9; have H6 := za (H5.out.handed hr9 hb9 hk9); clear hr9 hb9 hk9) | (refine store_bag H6.out 1 4 rfl ?_; intro wy h_; have HY := za h_; clear h_) | (refine store_bag HY.out 0 5 rfl ?_; intro wz h_; have HZ := za h_; clear h_))
   refine bodyPost_ret (results_cc rfl _ _ r1 r2 29 36 _ _ (0, 0) (0, 0) _ _ rfl (HZ.out.get 1 rfl) Try.underlying29 rfl zG83 rfl (HZ.out.get 0 rfl) Try.underlying36 rfl zG83) rfl ?_
   have HF := HZ.out.finV (P0 := P0) (fun k_ hk => hk.1.elim (HP.out k_) (fun hh => .inr (Nat.le_trans H5.out.kept.1 hh)))
   first | exact ⟨_, rfl, HF.1, HF.2.1, HF.2.2⟩ | exact ⟨rfl, _, HF.1, HF.2.1, HF.2.2⟩
  ·go_upto_region 28 with (first | (go_at_call 45; with_reducible refine HC.out.mono ?_; rintro e w5 ⟨rfl, hd⟩; have H5 := za (H4.out.drawn hd); clear hd; obtain ⟨⟨kb0f, kb1f⟩, fb0f, fb1f⟩ := cells2 (H5.out.get 0 rfl); obtain ⟨⟨ka0f, ka1f, ka2f, ka3f, ka4f, ka5f⟩, fa0f, fa1f, fa2f, fa3f, fa4f, fa5f⟩ := cells6 (H5.out.get 1 rfl); obtain ⟨⟨kx0f, kx1f, kx2f, kx3f, kx4f⟩, fx0f, fx1f, fx2f, fx3f, fx4f⟩ := cells5 (H5.out.get 2 rfl); obtain ⟨⟨ks0f, ks1f, ks2f, ks3f, ks4f, ks5f⟩, fs0f, fs1f, fs2f, fs3f, fs4f, fs5f⟩ := cells6 (H5.out.get 3 rfl)))
   go_wp2_with (first | (go_at_call 46; with_reducible refine (spec_l14Lot.calls k d0 d1 d2 d3 d4 _ _ l 7 x1 x2 x3 x4 ia r1_ r2_ r3_ r4_ r5_ r6_ r7_ r8_ w0 w5 H5.out.below H5.out.row HX.out).mono ?_; rintro e w6 ⟨v6, rfl, hr9, hb9, hk9⟩; obtain ⟨A6, c6, rfl⟩ := zx hr9; have H6 := za (H5.out.handed hr9 hb9 hk9); clear hr9 hb9 hk9) | (refine store_bag H6.out 1 4 rfl ?_; intro wy h_; have HY := za h_; clear h_) | (refine store_bag HY.out 0 5 rfl ?_; intro wz h_; have HZ := za h_; clear h_))
   refine bodyPost_ret (results_cc rfl _ _ r1 r2 29 36 _ _ (0, 0) (0, 0) _ _ rfl (HZ.out.get 1 rfl) Try.underlying29 rfl zG83 rfl (HZ.out.get 0 rfl) Try.underlying36 rfl zG83) rfl ?_
   have HF := HZ.out.finV (P0 := P0) (fun k_ hk => hk.1.elim (HP.out k_) (fun hh => .inr (Nat.le_trans H5.out.kept.1 hh)))
   first | exact ⟨_, rfl, HF.1, HF.2.1, HF.2.2⟩ | exact ⟨rfl, _, HF.1, HF.2.1, HF.2.2⟩
 rw [if_neg k4] at h
 simp only [Option.some.injEq, Prod.mk.injEq] at h
 obtain ⟨rfl, rfl, rfl, rfl, rfl, rfl, rfl, rfl⟩ := h
 have e4 : (x0 == 4) = false := beq_eq_false_iff_ne.mpr (fun hh => k4 (.inl hh))
 have e5 : (x0 == 5) = false := beq_eq_false_iff_ne.mpr (fun hh => k4 (.inr (.inl hh)))
 have e6 : (x0 == 6) = false := beq_eq_false_iff_ne.mpr (fun hh => k4 (.inr (.inr (.inl hh))))
 have e7 : (x0 == 7) = false := beq_eq_false_iff_ne.mpr (fun hh => k4 (.inr (.inr (.inr hh))))
 clear k1 k2 k3 k4
 go_wp2_with (first | (refine store_bag H4.out 1 4 rfl ?_; intro wy h_; have HY := za h_; clear h_) | (refine store_bag HY.out 0 5 rfl ?_; intro wz h_; have HZ := za h_; clear h_))
 refine bodyPost_ret (results_cc rfl _ _ r1 r2 29 36 _ _ (0, 0) (0, 0) _ _ rfl (HZ.out.get 1 rfl) Try.underlying29 rfl zG83 rfl (HZ.out.get 0 rfl) Try.underlying36 rfl zG83) rfl ?_
 have HF := HZ.out.finV (P0 := P0) HP.out
 first | exact ⟨_, rfl, HF.1, HF.2.1, HF.2.2⟩ | exact ⟨rfl, _, HF.1, HF.2.1, HF.2.2⟩
end Go.Proofs.Ytnkceaibkfbeaaa.E
