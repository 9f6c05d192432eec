-- squeezed
-- made by pp.py (wip/tools) out of the translation; Lean checks it
import Derived.Test.YtnkceaibkfbeaaaE8
import Derived.Test.YtnkceaibkfbeaaaE4
import Derived.Test.YtnkceaibkfbeaaaE0
import Derived.Test.YtnkceaibkfbeaaaE5
import Derived.Test.YtnkceaibkfbeaaaE9
namespace Go.Proofs.Ytnkceaibkfbeaaa.E
open Go.RowKit Go.Proofs.YtnkceaibkfbeaaaW.PrintWords Go.Proofs.YtnkceaibkfbeaaaW.PrintLast Go.Proofs.YtnkceaibkfbeaaaW.PrintMore
attribute [local go_sem] max2_int min2_int max_two min_two max_three min_three max_four min_four   -- for this text's walks alone
set_option linter.unusedVariables false
set_option linter.unusedSimpArgs false


/-! ### spec_l14Lot: function 46 -/
def spec_l14Lot.f (k : Nat) (d0 d1 d2 d3 d4 : Int) (l : List S38) (x0 : Int) (x1 : ByteArray) (x2 x3 x4 a2 : Int) : Option (Int × Int × Int × Int × Int × (List (S38)) × Int × Int) :=
 if 0 ≤ a2 then (if a2 < (l.length : Int) then
  (if x0 = 4 ∨ x0 = 5 then
   (if (rd_T38 l a2).f4 = (x0 == 4) then some (d0, d1, d2, d3, d4, l, 12, 0)
   else some (d0, d1, d2, d3, d4, l.set a2.toNat ⟨(rd_T38 l a2).f0, (rd_T38 l a2).f1, (rd_T38 l a2).f2, (rd_T38 l a2).f3, !(rd_T38 l a2).f4⟩, 0, (rd_T38 l a2).f2))
  else if x0 = 6 then (spec_l14Drop.f l a2).bind fun r => some (d0, d1, d2, wrap64 (d3 + (rd_T38 l a2).f2), d4, r, 0, (rd_T38 l a2).f2)
  else (spec_l01In.f x3 0 (rd_T38 l a2).f2).bind fun t =>
   if t = true then
    (if x3 = 0 then (spec_l14Drop.f (l.set a2.toNat ⟨(rd_T38 l a2).f0, (rd_T38 l a2).f1, x3, (rd_T38 l a2).f3, (rd_T38 l a2).f4⟩) a2).bind fun r => some (d0, d1, d2, d3, wrap64 (d4 + wrap64 ((rd_T38 l a2).f2 - x3)), r, 0, wrap64 ((rd_T38 l a2).f2 - x3))
    else some (d0, d1, d2, d3, wrap64 (d4 + wrap64 ((rd_T38 l a2).f2 - x3)), l.set a2.toNat ⟨(rd_T38 l a2).f0, (rd_T38 l a2).f1, x3, (rd_T38 l a2).f3, (rd_T38 l a2).f4⟩, 0, wrap64 ((rd_T38 l a2).f2 - x3)))
   else some (d0, d1, d2, d3, d4, l, 5, 0)) else none) else none
theorem spec_l14Lot.mono : ∀ a0 a1 a2 a3 a4 a5 a6 a7 a8 a9 a10 a11 k, LeO (spec_l14Lot.f k a0 a1 a2 a3 a4 a5 a6 a7 a8 a9 a10 a11) (spec_l14Lot.f (k + 1) a0 a1 a2 a3 a4 a5 a6 a7 a8 a9 a10 a11) := fun _ _ _ _ _ _ _ _ _ _ _ _ _ => LeO.refl _
set_option maxHeartbeats 8000000 in
set_option maxRecDepth 100000 in
theorem spec_l14Lot.calls (k : Nat) (d0 d1 d2 d3 d4 : Int) (P0 : Nat → Prop) (u : Value) (l : List S38) (x0 : Int) (x1 : ByteArray) (x2 x3 x4 a2 r1_ r2_ r3_ r4_ r5_ : Int) (r6_ : List S38) (r7_ r8_ : Int) (w0 w : World) (hB : Below w0.heap.size w0 w) (ho : Kd.R k38 38 w w0.heap.size P0 u l) (h : spec_l14Lot.f k d0 d1 d2 d3 d4 l x0 x1 x2 x3 x4 a2 = some (r1_, r2_, r3_, r4_, r5_, r6_, r7_, r8_)) :
  Calls Try.prog 46 #[.agg (zs6 d0 d1 d2 d3 d4 u), .agg (za5 x0 x1 x2 x3 x4), .int .i64 a2] w fun e w' => ∃ v5_ : Value, e = .returned (.tuple #[.agg (zs6 r1_ r2_ r3_ r4_ r5_ v5_), .agg (zo2 r7_ r8_)]) ∧ Kd.R k38 38 w' w0.heap.size (fun k_ => (P0 k_ ∨ w.heap.size ≤ k_)) v5_ r6_ ∧ Below w0.heap.size w0 w' ∧ Kept w w' (fun k_ => P0 k_) := by
 have hu34 := Try.underlying34
 have hu36 := Try.underlying36
 have hu38 := Try.underlying38
 have hu29 := Try.underlying29
 have hz36 := szero36
 have hz29 := szero29
 have hz38 := szero38
 unfold spec_l14Lot.f at h
 by_cases h0 : 0 ≤ a2
 rotate_left
 ·rw [if_neg h0] at h
  cases h
 rw [if_pos h0] at h
 by_cases h1 : a2 < (l.length : Int)
 rotate_left
 ·rw [if_neg h1] at h
  cases h
 rw [if_pos h1] at h
 obtain ⟨go, cu, hu_, hge_, _⟩ := zam ho (by omega)
 subst hu_
 obtain ⟨H0, GE⟩ := zD2 (Bag.mk1 hB ho) hge_
 obtain ⟨GP, A0, A1, HP⟩ := zD4 (H0.out.row.1 go rfl) h0 h1 (show ∀ k_, (fun k => P0 k ∧ k < w.heap.size) k_ → P0 k_ ∨ w.heap.size ≤ k_ from fun _ hk => .inl hk.1)
 clear hge_ hB ho
 replace h0 := eq_true h0
 replace h1 := eq_true h1
 have HH := za h
 clear h
 go_enter Try.func46, Try.ntmps46
 go_upto_region 2 with (first | (refine box_bag H0.out 3 (zs6 d0 d1 d2 d3 d4 (.slice (some ⟨go, 0, none⟩) l.length cu)) 29 rfl ?_; intro sb w1 h_; have H1 := za h_; clear h_) | (refine box_bag H1.out 4 (za5 x0 x1 x2 x3 x4) 34 rfl ?_; intro xb w2 h_; have H2 := za h_; clear h_) | (refine box_bag H2.out 6 (zs6 0 0 0 0 0 (.slice none 0 0)) 29 rfl ?_; intro r1 w3 h_; have H3 := za h_; clear h_) | (refine box_bag H3.out 7 (zo2 0 0) 36 rfl ?_; intro r2 w4 h_; have H4 := za h_; obtain ⟨c0, c1, c2, c3, c4, cf⟩ := lot_cells H4.out.row A0.out A1.out; have qs5 : w4.cell? ⟨sb, 5, none⟩ = some (.slice (some ⟨go, 0, none⟩) l.length cu) := (H4.out.cell 3 rfl 5).trans rfl; clear h_) | (refine box_bag H4.out 8 (zl5 ByteArray.empty 0 0 0 false) 38 rfl ?_; intro hb w5 h_; have H5 := za h_; obtain ⟨⟨zhb0, zhb1, zhb2, zhb3, zhb4⟩, yhb0, yhb1, yhb2, yhb3, yhb4⟩ := cells5 (H5.out.get 0 rfl); clear c0 c1 c2 c3 c4 cf qs5 h_))
 have H6 := za (H5.out.puts (i := 0) [.string (rd_T38 l a2).f0, .int .i64 (rd_T38 l a2).f1, .int .i64 (rd_T38 l a2).f2, .int .i64 (rd_T38 l a2).f3, .bool (rd_T38 l a2).f4] 0 rfl)
 replace H6 : Aside0 (Bag k38 38 w0 w (fun k => P0 k ∧ k < w.heap.size) w.heap.size (.slice (some ⟨go, 0, none⟩) l.length cu) l [(hb, (zl5 ((rd_T38 l a2).f0) ((rd_T38 l a2).f1) ((rd_T38 l a2).f2) ((rd_T38 l a2).f3) ((rd_T38 l a2).f4)), 38), (r2, (zo2 0 0), 36), (r1, (zs6 0 0 0 0 0 (.slice none 0 0)), 29), (xb, (za5 x0 x1 x2 x3 x4), 34), (sb, (zs6 d0 d1 d2 d3 d4 (.slice (some ⟨go, 0, none⟩) l.length cu)), 29)] (((((w5.setCell ⟨hb, 0, none⟩ (.string (rd_T38 l a2).f0)).setCell ⟨hb, 1, none⟩ (.int .i64 (rd_T38 l a2).f1)).setCell ⟨hb, 2, none⟩ (.int .i64 (rd_T38 l a2).f2)).setCell ⟨hb, 3, none⟩ (.int .i64 (rd_T38 l a2).f3)).setCell ⟨hb, 4, none⟩ (.bool (rd_T38 l a2).f4))) := H6
 generalize (((((w5.setCell ⟨hb, 0, none⟩ (.string (rd_T38 l a2).f0)).setCell ⟨hb, 1, none⟩ (.int .i64 (rd_T38 l a2).f1)).setCell ⟨hb, 2, none⟩ (.int .i64 (rd_T38 l a2).f2)).setCell ⟨hb, 3, none⟩ (.int .i64 (rd_T38 l a2).f3)).setCell ⟨hb, 4, none⟩ (.bool (rd_T38 l a2).f4)) = w6 at H6 ⊢
 clear H0 H1 H2 H3 H4 H5 hz36 hz29 hz38 zhb0 yhb0 zhb1 yhb1 zhb2 yhb2 zhb3 yhb3 zhb4 yhb4
 obtain ⟨⟨kh0g, kh1g, kh2g, kh3g, kh4g⟩, fh0g, fh1g, fh2g, fh3g, fh4g⟩ := cells5 (H6.out.get 0 rfl)
 obtain ⟨⟨kb0g, kb1g⟩, fb0g, fb1g⟩ := cells2 (H6.out.get 1 rfl)
 obtain ⟨⟨ka0g, ka1g, ka2g, ka3g, ka4g, ka5g⟩, fa0g, fa1g, fa2g, fa3g, fa4g, fa5g⟩ := cells6 (H6.out.get 2 rfl)
 obtain ⟨⟨kx0g, kx1g, kx2g, kx3g, kx4g⟩, fx0g, fx1g, fx2g, fx3g, fx4g⟩ := cells5 (H6.out.get 3 rfl)
 obtain ⟨⟨ks0g, ks1g, ks2g, ks3g, ks4g, ks5g⟩, fs0g, fs1g, fs2g, fs3g, fs4g, fs5g⟩ := cells6 (H6.out.get 4 rfl)
 have n21 := blk_ne (H6.out.get 1 rfl) (H6.out.get 2 rfl) zG84
 have n12 := n21.symm
 by_cases k45 : x0 = 4 ∨ x0 = 5
 ·have h := HH.out
  rw [if_pos k45] at h
  clear HH
  by_cases hs : (rd_T38 l a2).f4 = (x0 == 4)
  ·rw [if_pos hs] at h
   simp only [Option.some.injEq, Prod.mk.injEq] at h
   obtain ⟨rfl, rfl, rfl, rfl, rfl, rfl, rfl, rfl⟩ := h
   rcases k45 with rfl | rfl
   ·have hv : (rd_T38 l a2).f4 = true := hs
    rw [hv] at kh4g
    clear hs
    go_wp2_with (first | (refine store_bag H6.out 2 6 rfl ?_; intro wy h_; have HY := za h_; clear h_) | (refine store_bag HY.out 1 7 rfl ?_; intro wz h_; have HZ := za h_; clear h_))
    refine bodyPost_ret (results_cc rfl _ _ r1 r2 29 36 _ _ (0, 0) (0, 0) _ _ rfl (HZ.out.get 2 rfl) Try.underlying29 rfl zG83 rfl (HZ.out.get 1 rfl) Try.underlying36 rfl zG83) rfl ?_
    have HF := HZ.out.finV (P0 := P0) HP.out
    first | exact ⟨_, rfl, HF.1, HF.2.1, HF.2.2⟩ | exact ⟨rfl, _, HF.1, HF.2.1, HF.2.2⟩
   ·have hv : (rd_T38 l a2).f4 = false := hs
    rw [hv] at kh4g
    clear hs
    go_wp2_with (first | (refine store_bag H6.out 2 6 rfl ?_; intro wy h_; have HY := za h_; clear h_) | (refine store_bag HY.out 1 7 rfl ?_; intro wz h_; have HZ := za h_; clear h_))
    refine bodyPost_ret (results_cc rfl _ _ r1 r2 29 36 _ _ (0, 0) (0, 0) _ _ rfl (HZ.out.get 2 rfl) Try.underlying29 rfl zG83 rfl (HZ.out.get 1 rfl) Try.underlying36 rfl zG83) rfl ?_
    have HF := HZ.out.finV (P0 := P0) HP.out
    first | exact ⟨_, rfl, HF.1, HF.2.1, HF.2.2⟩ | exact ⟨rfl, _, HF.1, HF.2.1, HF.2.2⟩
  ·rw [if_neg hs] at h
   rcases k45 with rfl | rfl
   ·have hv : (rd_T38 l a2).f4 = false := by
     cases hh : (rd_T38 l a2).f4 <;> simp_all
    rw [hv] at h
    have kh4z := kh4g
    rw [hv] at kh4g
    simp only [Option.some.injEq, Prod.mk.injEq] at h
    obtain ⟨rfl, rfl, rfl, rfl, rfl, rfl, rfl, rfl⟩ := h
    clear hs
    obtain ⟨c0, c1, c2, c3, c4, cf⟩ := lot_cells H6.out.row A0.out A1.out
    rw [hv] at c4
    have cf4 := cf 4
    go_upto_region 8 with (fail)
    have H7 := za (H6.out.rowput (lot_held H6.out.row A0.out A1.out true) GE.out GP.out)
    generalize (w6.setCell ⟨go, a2.toNat * 5 + 4, none⟩ (.bool true)) = w7 at H7 ⊢
    clear H6 c0 c1 c2 c3 c4 cf cf4 kh4z
    clear kh0g fh0g kh1g fh1g kh2g fh2g kh3g fh3g kh4g fh4g kb0g fb0g kb1g fb1g ka0g fa0g ka1g fa1g ka2g fa2g ka3g fa3g ka4g fa4g ka5g fa5g kx0g fx0g kx1g fx1g kx2g fx2g kx3g fx3g kx4g fx4g ks0g fs0g ks1g fs1g ks2g fs2g ks3g fs3g ks4g fs4g ks5g fs5g
    obtain ⟨⟨kh0h, kh1h, kh2h, kh3h, kh4h⟩, fh0h, fh1h, fh2h, fh3h, fh4h⟩ := cells5 (H7.out.get 0 rfl)
    obtain ⟨⟨kb0h, kb1h⟩, fb0h, fb1h⟩ := cells2 (H7.out.get 1 rfl)
    obtain ⟨⟨ka0h, ka1h, ka2h, ka3h, ka4h, ka5h⟩, fa0h, fa1h, fa2h, fa3h, fa4h, fa5h⟩ := cells6 (H7.out.get 2 rfl)
    obtain ⟨⟨kx0h, kx1h, kx2h, kx3h, kx4h⟩, fx0h, fx1h, fx2h, fx3h, fx4h⟩ := cells5 (H7.out.get 3 rfl)
    obtain ⟨⟨ks0h, ks1h, ks2h, ks3h, ks4h, ks5h⟩, fs0h, fs1h, fs2h, fs3h, fs4h, fs5h⟩ := cells6 (H7.out.get 4 rfl)
    go_wp2
    have n_sb_r1 : ¬ sb = r1 := H7.out.ne 4 2 rfl rfl zG84
    have n_sb_r2 : ¬ sb = r2 := H7.out.ne 4 1 rfl rfl zG84
    have n_hb_r1 : ¬ hb = r1 := H7.out.ne 0 2 rfl rfl zG84
    have n_hb_r2 : ¬ hb = r2 := H7.out.ne 0 1 rfl rfl zG84
    have n_r2_r1 : ¬ r2 = r1 := H7.out.ne 1 2 rfl rfl zG84
    try go_wp2
    go_region
    have HZ := za ((H7.out.puts (i := 2) [.int .i64 d0, .int .i64 d1, .int .i64 d2, .int .i64 d3, .int .i64 d4, .slice (some ⟨go, 0, none⟩) l.length cu] 0 rfl).puts (i := 1) [.int .i64 0, .int .i64 (rd_T38 l a2).f2] 0 rfl).drew
    go_wp2
    refine bodyPost_ret (results_cc rfl _ _ r1 r2 29 36 _ _ (0, 0) (0, 0) _ _ rfl (HZ.out.get 2 rfl) Try.underlying29 rfl zG83 rfl (HZ.out.get 1 rfl) Try.underlying36 rfl zG83) rfl ?_
    have HF := HZ.out.finV (P0 := P0) HP.out
    first | exact ⟨_, rfl, HF.1, HF.2.1, HF.2.2⟩ | exact ⟨rfl, _, HF.1, HF.2.1, HF.2.2⟩
   ·have hv : (rd_T38 l a2).f4 = true := by
     cases hh : (rd_T38 l a2).f4 <;> simp_all
    rw [hv] at h
    have kh4z := kh4g
    rw [hv] at kh4g
    simp only [Option.some.injEq, Prod.mk.injEq] at h
    obtain ⟨rfl, rfl, rfl, rfl, rfl, rfl, rfl, rfl⟩ := h
    clear hs
    obtain ⟨c0, c1, c2, c3, c4, cf⟩ := lot_cells H6.out.row A0.out A1.out
    rw [hv] at c4
    have cf4 := cf 4
    go_upto_region 8 with (fail)
    have H7 := za (H6.out.rowput (lot_held H6.out.row A0.out A1.out false) GE.out GP.out)
    generalize (w6.setCell ⟨go, a2.toNat * 5 + 4, none⟩ (.bool false)) = w7 at H7 ⊢
    clear H6 c0 c1 c2 c3 c4 cf cf4 kh4z
    clear kh0g fh0g kh1g fh1g kh2g fh2g kh3g fh3g kh4g fh4g kb0g fb0g kb1g fb1g ka0g fa0g ka1g fa1g ka2g fa2g ka3g fa3g ka4g fa4g ka5g fa5g kx0g fx0g kx1g fx1g kx2g fx2g kx3g fx3g kx4g fx4g ks0g fs0g ks1g fs1g ks2g fs2g ks3g fs3g ks4g fs4g ks5g fs5g
    obtain ⟨⟨kh0h, kh1h, kh2h, kh3h, kh4h⟩, fh0h, fh1h, fh2h, fh3h, fh4h⟩ := cells5 (H7.out.get 0 rfl)
    obtain ⟨⟨kb0h, kb1h⟩, fb0h, fb1h⟩ := cells2 (H7.out.get 1 rfl)
    obtain ⟨⟨ka0h, ka1h, ka2h, ka3h, ka4h, ka5h⟩, fa0h, fa1h, fa2h, fa3h, fa4h, fa5h⟩ := cells6 (H7.out.get 2 rfl)
    obtain ⟨⟨kx0h, kx1h, kx2h, kx3h, kx4h⟩, fx0h, fx1h, fx2h, fx3h, fx4h⟩ := cells5 (H7.out.get 3 rfl)
    obtain ⟨⟨ks0h, ks1h, ks2h, ks3h, ks4h, ks5h⟩, fs0h, fs1h, fs2h, fs3h, fs4h, fs5h⟩ := cells6 (H7.out.get 4 rfl)
    go_wp2
    have n_sb_r1 : ¬ sb = r1 := H7.out.ne 4 2 rfl rfl zG84
    have n_sb_r2 : ¬ sb = r2 := H7.out.ne 4 1 rfl rfl zG84
    have n_hb_r1 : ¬ hb = r1 := H7.out.ne 0 2 rfl rfl zG84
    have n_hb_r2 : ¬ hb = r2 := H7.out.ne 0 1 rfl rfl zG84
    have n_r2_r1 : ¬ r2 = r1 := H7.out.ne 1 2 rfl rfl zG84
    try go_wp2
    go_region
    have HZ := za ((H7.out.puts (i := 2) [.int .i64 d0, .int .i64 d1, .int .i64 d2, .int .i64 d3, .int .i64 d4, .slice (some ⟨go, 0, none⟩) l.length cu] 0 rfl).puts (i := 1) [.int .i64 0, .int .i64 (rd_T38 l a2).f2] 0 rfl).drew
    go_wp2
    refine bodyPost_ret (results_cc rfl _ _ r1 r2 29 36 _ _ (0, 0) (0, 0) _ _ rfl (HZ.out.get 2 rfl) Try.underlying29 rfl zG83 rfl (HZ.out.get 1 rfl) Try.underlying36 rfl zG83) rfl ?_
    have HF := HZ.out.finV (P0 := P0) HP.out
    first | exact ⟨_, rfl, HF.1, HF.2.1, HF.2.2⟩ | exact ⟨rfl, _, HF.1, HF.2.1, HF.2.2⟩
 ·have h := HH.out
  rw [if_neg k45] at h
  clear HH
  have e4 : (x0 == 4) = false := beq_eq_false_iff_ne.mpr (fun hh => k45 (.inl hh))
  have e5 : (x0 == 5) = false := beq_eq_false_iff_ne.mpr (fun hh => k45 (.inr hh))
  by_cases k6 : x0 = 6
  ·subst k6
   rw [if_pos rfl] at h
   replace h := Option.bind_eq_some_iff.mp h
   obtain ⟨rr, hd_, h⟩ := h
   simp only [Option.some.injEq, Prod.mk.injEq] at h
   obtain ⟨rfl, rfl, rfl, rfl, rfl, rfl, rfl, rfl⟩ := h
   have HD := za hd_
   clear hd_ e4 e5 k45
   go_upto_region 11 with (fail)
   have H7 : Aside0 (Bag k38 38 w0 w (fun k => P0 k ∧ k < w.heap.size) w.heap.size (.slice (some ⟨go, 0, none⟩) l.length cu) l [(hb, (zl5 ((rd_T38 l a2).f0) ((rd_T38 l a2).f1) ((rd_T38 l a2).f2) ((rd_T38 l a2).f3) ((rd_T38 l a2).f4)), 38), (r2, (zo2 0 0), 36), (r1, (zs6 0 0 0 0 0 (.slice none 0 0)), 29), (xb, (za5 6 x1 x2 x3 x4), 34), (sb, (zs6 d0 d1 d2 (wrap64 (d3 + (rd_T38 l a2).f2)) d4 (.slice (some ⟨go, 0, none⟩) l.length cu)), 29)] (w6.setCell ⟨sb, 3, none⟩ (.int .i64 (wrap64 (d3 + (rd_T38 l a2).f2))))) := ⟨H6.out.put 4 3 (.int .i64 (wrap64 (d3 + (rd_T38 l a2).f2))) rfl rfl⟩
   generalize (w6.setCell ⟨sb, 3, none⟩ (.int .i64 (wrap64 (d3 + (rd_T38 l a2).f2)))) = w7 at H7 ⊢
   clear H6
   clear kh0g fh0g kh1g fh1g kh2g fh2g kh3g fh3g kh4g fh4g kb0g fb0g kb1g fb1g ka0g fa0g ka1g fa1g ka2g fa2g ka3g fa3g ka4g fa4g ka5g fa5g kx0g fx0g kx1g fx1g kx2g fx2g kx3g fx3g kx4g fx4g ks0g fs0g ks1g fs1g ks2g fs2g ks3g fs3g ks4g fs4g ks5g fs5g
   obtain ⟨⟨kh0h, kh1h, kh2h, kh3h, kh4h⟩, fh0h, fh1h, fh2h, fh3h, fh4h⟩ := cells5 (H7.out.get 0 rfl)
   obtain ⟨⟨kb0h, kb1h⟩, fb0h, fb1h⟩ := cells2 (H7.out.get 1 rfl)
   obtain ⟨⟨ka0h, ka1h, ka2h, ka3h, ka4h, ka5h⟩, fa0h, fa1h, fa2h, fa3h, fa4h, fa5h⟩ := cells6 (H7.out.get 2 rfl)
   obtain ⟨⟨kx0h, kx1h, kx2h, kx3h, kx4h⟩, fx0h, fx1h, fx2h, fx3h, fx4h⟩ := cells5 (H7.out.get 3 rfl)
   obtain ⟨⟨ks0h, ks1h, ks2h, ks3h, ks4h, ks5h⟩, fs0h, fs1h, fs2h, fs3h, fs4h, fs5h⟩ := cells6 (H7.out.get 4 rfl)
   go_upto_region 12 with (first | (go_at_call 57; refine (spec_l14Drop.calls _ _ l a2 rr _ (Kd.R_reads' H7.out.row).2.2 (Kd.R_reads' H7.out.row).2.1 HD.out).mono ?_; rintro e w8 ⟨v8, rfl, hr8, hb8⟩; obtain ⟨A8, c8, rfl⟩ := zx hr8; have H8 := za (H7.out.newrow hr8 hb8); clear hr8 hb8; obtain ⟨⟨kh0i, kh1i, kh2i, kh3i, kh4i⟩, fh0i, fh1i, fh2i, fh3i, fh4i⟩ := cells5 (H8.out.get 0 rfl); obtain ⟨⟨kb0i, kb1i⟩, fb0i, fb1i⟩ := cells2 (H8.out.get 1 rfl); obtain ⟨⟨ka0i, ka1i, ka2i, ka3i, ka4i, ka5i⟩, fa0i, fa1i, fa2i, fa3i, fa4i, fa5i⟩ := cells6 (H8.out.get 2 rfl); obtain ⟨⟨kx0i, kx1i, kx2i, kx3i, kx4i⟩, fx0i, fx1i, fx2i, fx3i, fx4i⟩ := cells5 (H8.out.get 3 rfl); obtain ⟨⟨ks0i, ks1i, ks2i, ks3i, ks4i, ks5i⟩, fs0i, fs1i, fs2i, fs3i, fs4i, fs5i⟩ := cells6 (H8.out.get 4 rfl)))
   have H9 : Aside0 (Bag k38 38 w0 w (fun k => ((P0 k ∧ k < w.heap.size) ∨ w7.heap.size ≤ k) ∧ k < w8.heap.size) w.heap.size (.slice A8 rr.length c8) rr [(hb, (zl5 ((rd_T38 l a2).f0) ((rd_T38 l a2).f1) ((rd_T38 l a2).f2) ((rd_T38 l a2).f3) ((rd_T38 l a2).f4)), 38), (r2, (zo2 0 0), 36), (r1, (zs6 0 0 0 0 0 (.slice none 0 0)), 29), (xb, (za5 6 x1 x2 x3 x4), 34), (sb, (zs6 d0 d1 d2 (wrap64 (d3 + (rd_T38 l a2).f2)) d4 (.slice A8 rr.length c8)), 29)] (w8.setCell ⟨sb, 5, none⟩ (.slice A8 rr.length c8))) := ⟨H8.out.put 4 5 (.slice A8 rr.length c8) rfl rfl⟩
   generalize (w8.setCell ⟨sb, 5, none⟩ (.slice A8 rr.length c8)) = w9 at H9 ⊢
   clear kh0h fh0h kh1h fh1h kh2h fh2h kh3h fh3h kh4h fh4h kb0h fb0h kb1h fb1h ka0h fa0h ka1h fa1h ka2h fa2h ka3h fa3h ka4h fa4h ka5h fa5h kx0h fx0h kx1h fx1h kx2h fx2h kx3h fx3h kx4h fx4h ks0h fs0h ks1h fs1h ks2h fs2h ks3h fs3h ks4h fs4h ks5h fs5h
   clear kh0i fh0i kh1i fh1i kh2i fh2i kh3i fh3i kh4i fh4i kb0i fb0i kb1i fb1i ka0i fa0i ka1i fa1i ka2i fa2i ka3i fa3i ka4i fa4i ka5i fa5i kx0i fx0i kx1i fx1i kx2i fx2i kx3i fx3i kx4i fx4i ks0i fs0i ks1i fs1i ks2i fs2i ks3i fs3i ks4i fs4i ks5i fs5i
   obtain ⟨⟨kh0j, kh1j, kh2j, kh3j, kh4j⟩, fh0j, fh1j, fh2j, fh3j, fh4j⟩ := cells5 (H9.out.get 0 rfl)
   obtain ⟨⟨kb0j, kb1j⟩, fb0j, fb1j⟩ := cells2 (H9.out.get 1 rfl)
   obtain ⟨⟨ka0j, ka1j, ka2j, ka3j, ka4j, ka5j⟩, fa0j, fa1j, fa2j, fa3j, fa4j, fa5j⟩ := cells6 (H9.out.get 2 rfl)
   obtain ⟨⟨kx0j, kx1j, kx2j, kx3j, kx4j⟩, fx0j, fx1j, fx2j, fx3j, fx4j⟩ := cells5 (H9.out.get 3 rfl)
   obtain ⟨⟨ks0j, ks1j, ks2j, ks3j, ks4j, ks5j⟩, fs0j, fs1j, fs2j, fs3j, fs4j, fs5j⟩ := cells6 (H9.out.get 4 rfl)
   have n_sb_r1 : ¬ sb = r1 := H9.out.ne 4 2 rfl rfl zG84
   have n_sb_r2 : ¬ sb = r2 := H9.out.ne 4 1 rfl rfl zG84
   have n_hb_r1 : ¬ hb = r1 := H9.out.ne 0 2 rfl rfl zG84
   have n_hb_r2 : ¬ hb = r2 := H9.out.ne 0 1 rfl rfl zG84
   have n_r2_r1 : ¬ r2 = r1 := H9.out.ne 1 2 rfl rfl zG84
   try go_wp2
   go_region
   have HZ := za ((H9.out.puts (i := 2) [.int .i64 d0, .int .i64 d1, .int .i64 d2, .int .i64 (wrap64 (d3 + (rd_T38 l a2).f2)), .int .i64 d4, .slice A8 rr.length c8] 0 rfl).puts (i := 1) [.int .i64 0, .int .i64 (rd_T38 l a2).f2] 0 rfl).drew
   go_wp2
   refine bodyPost_ret (results_cc rfl _ _ r1 r2 29 36 _ _ (0, 0) (0, 0) _ _ rfl (HZ.out.get 2 rfl) Try.underlying29 rfl zG83 rfl (HZ.out.get 1 rfl) Try.underlying36 rfl zG83) rfl ?_
   have HF := HZ.out.finV (P0 := P0) (fun k_ hk => hk.1.elim (HP.out k_) (fun hh => .inr (Nat.le_trans H7.out.kept.1 hh)))
   first | exact ⟨_, rfl, HF.1, HF.2.1, HF.2.2⟩ | exact ⟨rfl, _, HF.1, HF.2.1, HF.2.2⟩
  ·rw [if_neg k6] at h
   have e6 : (x0 == 6) = false := beq_eq_false_iff_ne.mpr k6
   clear k45 k6
   replace h := Option.bind_eq_some_iff.mp h
   obtain ⟨t, a5, h⟩ := h
   have A5 := za a5
   clear a5
   cases t with
   | false =>
    simp only [Bool.false_eq_true, if_false, Option.some.injEq, Prod.mk.injEq] at h
    obtain ⟨rfl, rfl, rfl, rfl, rfl, rfl, rfl, rfl⟩ := h
    go_upto_region 14 with (first | (go_at_call 44; with_reducible refine (spec_l01In.calls x3 0 (rd_T38 l a2).f2 false _ A5.out).mono ?_; rintro e w' ⟨rfl, ⟨nd, rfl⟩⟩; have H7 := za (H6.out.drewN nd)))
    generalize (w6.drewN nd) = w7 at H7 ⊢
    clear H6
    clear kh0g fh0g kh1g fh1g kh2g fh2g kh3g fh3g kh4g fh4g kb0g fb0g kb1g fb1g ka0g fa0g ka1g fa1g ka2g fa2g ka3g fa3g ka4g fa4g ka5g fa5g kx0g fx0g kx1g fx1g kx2g fx2g kx3g fx3g kx4g fx4g ks0g fs0g ks1g fs1g ks2g fs2g ks3g fs3g ks4g fs4g ks5g fs5g
    obtain ⟨⟨kh0h, kh1h, kh2h, kh3h, kh4h⟩, fh0h, fh1h, fh2h, fh3h, fh4h⟩ := cells5 (H7.out.get 0 rfl)
    obtain ⟨⟨kb0h, kb1h⟩, fb0h, fb1h⟩ := cells2 (H7.out.get 1 rfl)
    obtain ⟨⟨ka0h, ka1h, ka2h, ka3h, ka4h, ka5h⟩, fa0h, fa1h, fa2h, fa3h, fa4h, fa5h⟩ := cells6 (H7.out.get 2 rfl)
    obtain ⟨⟨kx0h, kx1h, kx2h, kx3h, kx4h⟩, fx0h, fx1h, fx2h, fx3h, fx4h⟩ := cells5 (H7.out.get 3 rfl)
    obtain ⟨⟨ks0h, ks1h, ks2h, ks3h, ks4h, ks5h⟩, fs0h, fs1h, fs2h, fs3h, fs4h, fs5h⟩ := cells6 (H7.out.get 4 rfl)
    go_wp2_with (first | (refine store_bag H7.out 2 6 rfl ?_; intro wy h_; have HY := za h_; clear h_) | (refine store_bag HY.out 1 7 rfl ?_; intro wz h_; have HZ := za h_; clear h_))
    refine bodyPost_ret (results_cc rfl _ _ r1 r2 29 36 _ _ (0, 0) (0, 0) _ _ rfl (HZ.out.get 2 rfl) Try.underlying29 rfl zG83 rfl (HZ.out.get 1 rfl) Try.underlying36 rfl zG83) rfl ?_
    have HF := HZ.out.finV (P0 := P0) HP.out
    first | exact ⟨_, rfl, HF.1, HF.2.1, HF.2.2⟩ | exact ⟨rfl, _, HF.1, HF.2.1, HF.2.2⟩
   | true =>
    rw [if_pos rfl] at h
    go_upto_region 15 with (first | (go_at_call 44; with_reducible refine (spec_l01In.calls x3 0 (rd_T38 l a2).f2 true _ A5.out).mono ?_; rintro e w' ⟨rfl, ⟨nd, rfl⟩⟩; have H7 := za (H6.out.drewN nd)))
    generalize (w6.drewN nd) = w7 at H7 ⊢
    clear H6
    clear kh0g fh0g kh1g fh1g kh2g fh2g kh3g fh3g kh4g fh4g kb0g fb0g kb1g fb1g ka0g fa0g ka1g fa1g ka2g fa2g ka3g fa3g ka4g fa4g ka5g fa5g kx0g fx0g kx1g fx1g kx2g fx2g kx3g fx3g kx4g fx4g ks0g fs0g ks1g fs1g ks2g fs2g ks3g fs3g ks4g fs4g ks5g fs5g
    obtain ⟨⟨kh0h, kh1h, kh2h, kh3h, kh4h⟩, fh0h, fh1h, fh2h, fh3h, fh4h⟩ := cells5 (H7.out.get 0 rfl)
    obtain ⟨⟨kb0h, kb1h⟩, fb0h, fb1h⟩ := cells2 (H7.out.get 1 rfl)
    obtain ⟨⟨ka0h, ka1h, ka2h, ka3h, ka4h, ka5h⟩, fa0h, fa1h, fa2h, fa3h, fa4h, fa5h⟩ := cells6 (H7.out.get 2 rfl)
    obtain ⟨⟨kx0h, kx1h, kx2h, kx3h, kx4h⟩, fx0h, fx1h, fx2h, fx3h, fx4h⟩ := cells5 (H7.out.get 3 rfl)
    obtain ⟨⟨ks0h, ks1h, ks2h, ks3h, ks4h, ks5h⟩, fs0h, fs1h, fs2h, fs3h, fs4h, fs5h⟩ := cells6 (H7.out.get 4 rfl)
    go_upto_region 16 with (fail)
    have H8 : Aside0 (Bag k38 38 w0 w (fun k => P0 k ∧ k < w.heap.size) w.heap.size (.slice (some ⟨go, 0, none⟩) l.length cu) l [(hb, (zl5 ((rd_T38 l a2).f0) ((rd_T38 l a2).f1) ((rd_T38 l a2).f2) ((rd_T38 l a2).f3) ((rd_T38 l a2).f4)), 38), (r2, (zo2 0 0), 36), (r1, (zs6 0 0 0 0 0 (.slice none 0 0)), 29), (xb, (za5 x0 x1 x2 x3 x4), 34), (sb, (zs6 d0 d1 d2 d3 ((wrap64 (d4 + (wrap64 ((rd_T38 l a2).f2 - x3))))) (.slice (some ⟨go, 0, none⟩) l.length cu)), 29)] (w7.setCell ⟨sb, 4, none⟩ (.int .i64 (wrap64 (d4 + (wrap64 ((rd_T38 l a2).f2 - x3))))))) := ⟨H7.out.put 4 4 (.int .i64 (wrap64 (d4 + (wrap64 ((rd_T38 l a2).f2 - x3))))) rfl rfl⟩
    generalize (w7.setCell ⟨sb, 4, none⟩ (.int .i64 (wrap64 (d4 + (wrap64 ((rd_T38 l a2).f2 - x3)))))) = w8 at H8 ⊢
    clear kh0h fh0h kh1h fh1h kh2h fh2h kh3h fh3h kh4h fh4h kb0h fb0h kb1h fb1h ka0h fa0h ka1h fa1h ka2h fa2h ka3h fa3h ka4h fa4h ka5h fa5h kx0h fx0h kx1h fx1h kx2h fx2h kx3h fx3h kx4h fx4h ks0h fs0h ks1h fs1h ks2h fs2h ks3h fs3h ks4h fs4h ks5h fs5h
    obtain ⟨⟨kh0i, kh1i, kh2i, kh3i, kh4i⟩, fh0i, fh1i, fh2i, fh3i, fh4i⟩ := cells5 (H8.out.get 0 rfl)
    obtain ⟨⟨kb0i, kb1i⟩, fb0i, fb1i⟩ := cells2 (H8.out.get 1 rfl)
    obtain ⟨⟨ka0i, ka1i, ka2i, ka3i, ka4i, ka5i⟩, fa0i, fa1i, fa2i, fa3i, fa4i, fa5i⟩ := cells6 (H8.out.get 2 rfl)
    obtain ⟨⟨kx0i, kx1i, kx2i, kx3i, kx4i⟩, fx0i, fx1i, fx2i, fx3i, fx4i⟩ := cells5 (H8.out.get 3 rfl)
    obtain ⟨⟨ks0i, ks1i, ks2i, ks3i, ks4i, ks5i⟩, fs0i, fs1i, fs2i, fs3i, fs4i, fs5i⟩ := cells6 (H8.out.get 4 rfl)
    obtain ⟨c0, c1, c2, c3, c4, cf⟩ := lot_cells H8.out.row A0.out A1.out
    have cf2 := cf 2
    go_upto_region 17 with (fail)
    have H9 : Aside0 (Bag k38 38 w0 w (fun k => P0 k ∧ k < w.heap.size) w.heap.size (.slice (some ⟨go, 0, none⟩) l.length cu) (l.set a2.toNat ⟨(rd_T38 l a2).f0, (rd_T38 l a2).f1, x3, (rd_T38 l a2).f3, (rd_T38 l a2).f4⟩) [(hb, (zl5 ((rd_T38 l a2).f0) ((rd_T38 l a2).f1) ((rd_T38 l a2).f2) ((rd_T38 l a2).f3) ((rd_T38 l a2).f4)), 38), (r2, (zo2 0 0), 36), (r1, (zs6 0 0 0 0 0 (.slice none 0 0)), 29), (xb, (za5 x0 x1 x2 x3 x4), 34), (sb, (zs6 d0 d1 d2 d3 ((wrap64 (d4 + (wrap64 ((rd_T38 l a2).f2 - x3))))) (.slice (some ⟨go, 0, none⟩) l.length cu)), 29)] (w8.setCell ⟨go, a2.toNat * 5 + 2, none⟩ (.int .i64 x3))) := ⟨H8.out.rowput (lot_num H8.out.row A0.out A1.out x3) GE.out GP.out⟩
    generalize (w8.setCell ⟨go, a2.toNat * 5 + 2, none⟩ (.int .i64 x3)) = w9 at H9 ⊢
    clear c0 c1 c2 c3 c4 cf cf2
    have HLE := za (show l.length = (l.set a2.toNat ⟨(rd_T38 l a2).f0, (rd_T38 l a2).f1, x3, (rd_T38 l a2).f3, (rd_T38 l a2).f4⟩).length by rw [List.length_set])
    rw [HLE.out] at H9
    clear kh0i fh0i kh1i fh1i kh2i fh2i kh3i fh3i kh4i fh4i kb0i fb0i kb1i fb1i ka0i fa0i ka1i fa1i ka2i fa2i ka3i fa3i ka4i fa4i ka5i fa5i kx0i fx0i kx1i fx1i kx2i fx2i kx3i fx3i kx4i fx4i ks0i fs0i ks1i fs1i ks2i fs2i ks3i fs3i ks4i fs4i ks5i fs5i
    generalize hLS : (l.set a2.toNat ⟨(rd_T38 l a2).f0, (rd_T38 l a2).f1, x3, (rd_T38 l a2).f3, (rd_T38 l a2).f4⟩) = ls at H9 HLE h ⊢
    clear hLS
    by_cases kz : x3 = 0
    rotate_left
    ·rw [if_neg kz] at h
     simp only [Option.some.injEq, Prod.mk.injEq] at h
     obtain ⟨rfl, rfl, rfl, rfl, rfl, rfl, rfl, rfl⟩ := h
     have kzb : (x3 == 0) = false := beq_eq_false_iff_ne.mpr kz
     clear kz
     obtain ⟨⟨kh0j, kh1j, kh2j, kh3j, kh4j⟩, fh0j, fh1j, fh2j, fh3j, fh4j⟩ := cells5 (H9.out.get 0 rfl)
     obtain ⟨⟨kb0j, kb1j⟩, fb0j, fb1j⟩ := cells2 (H9.out.get 1 rfl)
     obtain ⟨⟨ka0j, ka1j, ka2j, ka3j, ka4j, ka5j⟩, fa0j, fa1j, fa2j, fa3j, fa4j, fa5j⟩ := cells6 (H9.out.get 2 rfl)
     obtain ⟨⟨kx0j, kx1j, kx2j, kx3j, kx4j⟩, fx0j, fx1j, fx2j, fx3j, fx4j⟩ := cells5 (H9.out.get 3 rfl)
     obtain ⟨⟨ks0j, ks1j, ks2j, ks3j, ks4j, ks5j⟩, fs0j, fs1j, fs2j, fs3j, fs4j, fs5j⟩ := cells6 (H9.out.get 4 rfl)
     go_wp2
     have n_sb_r1 : ¬ sb = r1 := H9.out.ne 4 2 rfl rfl zG84
     have n_sb_r2 : ¬ sb = r2 := H9.out.ne 4 1 rfl rfl zG84
     have n_hb_r1 : ¬ hb = r1 := H9.out.ne 0 2 rfl rfl zG84
     have n_hb_r2 : ¬ hb = r2 := H9.out.ne 0 1 rfl rfl zG84
     have n_xb_r1 : ¬ xb = r1 := H9.out.ne 3 2 rfl rfl zG84
     have n_xb_r2 : ¬ xb = r2 := H9.out.ne 3 1 rfl rfl zG84
     have n_r2_r1 : ¬ r2 = r1 := H9.out.ne 1 2 rfl rfl zG84
     try go_wp2
     go_region
     have HZ := za ((H9.out.puts (i := 2) [.int .i64 d0, .int .i64 d1, .int .i64 d2, .int .i64 d3, .int .i64 (wrap64 (d4 + (wrap64 ((rd_T38 l a2).f2 - x3)))), .slice (some ⟨go, 0, none⟩) ls.length cu] 0 rfl).puts (i := 1) [.int .i64 0, .int .i64 (wrap64 ((rd_T38 l a2).f2 - x3))] 0 rfl).drew
     go_wp2
     refine bodyPost_ret (results_cc rfl _ _ r1 r2 29 36 _ _ (0, 0) (0, 0) _ _ rfl (HZ.out.get 2 rfl) Try.underlying29 rfl zG83 rfl (HZ.out.get 1 rfl) Try.underlying36 rfl zG83) rfl ?_
     have HF := HZ.out.finV (P0 := P0) HP.out
     first | exact ⟨_, rfl, HF.1, HF.2.1, HF.2.2⟩ | exact ⟨rfl, _, HF.1, HF.2.1, HF.2.2⟩
    ·rw [if_pos kz] at h
     have kzb : (x3 == 0) = true := beq_iff_eq.mpr kz
     clear kz
     replace h := Option.bind_eq_some_iff.mp h
     obtain ⟨rr, hd_, h⟩ := h
     simp only [Option.some.injEq, Prod.mk.injEq] at h
     obtain ⟨rfl, rfl, rfl, rfl, rfl, rfl, rfl, rfl⟩ := h
     have HD := za hd_
     clear hd_
     obtain ⟨⟨kh0j, kh1j, kh2j, kh3j, kh4j⟩, fh0j, fh1j, fh2j, fh3j, fh4j⟩ := cells5 (H9.out.get 0 rfl)
     obtain ⟨⟨kb0j, kb1j⟩, fb0j, fb1j⟩ := cells2 (H9.out.get 1 rfl)
     obtain ⟨⟨ka0j, ka1j, ka2j, ka3j, ka4j, ka5j⟩, fa0j, fa1j, fa2j, fa3j, fa4j, fa5j⟩ := cells6 (H9.out.get 2 rfl)
     obtain ⟨⟨kx0j, kx1j, kx2j, kx3j, kx4j⟩, fx0j, fx1j, fx2j, fx3j, fx4j⟩ := cells5 (H9.out.get 3 rfl)
     obtain ⟨⟨ks0j, ks1j, ks2j, ks3j, ks4j, ks5j⟩, fs0j, fs1j, fs2j, fs3j, fs4j, fs5j⟩ := cells6 (H9.out.get 4 rfl)
     go_upto_region 19 with (first | (go_at_call 57; refine (spec_l14Drop.calls _ _ ls a2 rr _ (Kd.R_reads' H9.out.row).2.2 (Kd.R_reads' H9.out.row).2.1 HD.out).mono ?_; rintro e w8 ⟨v8, rfl, hr8, hb8⟩; obtain ⟨A8, c8, rfl⟩ := zx hr8; have H10 := za (H9.out.newrow hr8 hb8); clear hr8 hb8; obtain ⟨⟨kh0i, kh1i, kh2i, kh3i, kh4i⟩, fh0i, fh1i, fh2i, fh3i, fh4i⟩ := cells5 (H10.out.get 0 rfl); obtain ⟨⟨kb0i, kb1i⟩, fb0i, fb1i⟩ := cells2 (H10.out.get 1 rfl); obtain ⟨⟨ka0i, ka1i, ka2i, ka3i, ka4i, ka5i⟩, fa0i, fa1i, fa2i, fa3i, fa4i, fa5i⟩ := cells6 (H10.out.get 2 rfl); obtain ⟨⟨kx0i, kx1i, kx2i, kx3i, kx4i⟩, fx0i, fx1i, fx2i, fx3i, fx4i⟩ := cells5 (H10.out.get 3 rfl); obtain ⟨⟨ks0i, ks1i, ks2i, ks3i, ks4i, ks5i⟩, fs0i, fs1i, fs2i, fs3i, fs4i, fs5i⟩ := cells6 (H10.out.get 4 rfl)))
     have H11 : Aside0 (Bag k38 38 w0 w (fun k => ((P0 k ∧ k < w.heap.size) ∨ w9.heap.size ≤ k) ∧ k < w8.heap.size) w.heap.size (.slice A8 rr.length c8) rr [(hb, (zl5 ((rd_T38 l a2).f0) ((rd_T38 l a2).f1) ((rd_T38 l a2).f2) ((rd_T38 l a2).f3) ((rd_T38 l a2).f4)), 38), (r2, (zo2 0 0), 36), (r1, (zs6 0 0 0 0 0 (.slice none 0 0)), 29), (xb, (za5 x0 x1 x2 x3 x4), 34), (sb, (zs6 d0 d1 d2 d3 ((wrap64 (d4 + (wrap64 ((rd_T38 l a2).f2 - x3))))) (.slice A8 rr.length c8)), 29)] (w8.setCell ⟨sb, 5, none⟩ (.slice A8 rr.length c8))) := ⟨H10.out.put 4 5 (.slice A8 rr.length c8) rfl rfl⟩
     generalize (w8.setCell ⟨sb, 5, none⟩ (.slice A8 rr.length c8)) = w11 at H11 ⊢
     clear kh0j fh0j kh1j fh1j kh2j fh2j kh3j fh3j kh4j fh4j kb0j fb0j kb1j fb1j ka0j fa0j ka1j fa1j ka2j fa2j ka3j fa3j ka4j fa4j ka5j fa5j kx0j fx0j kx1j fx1j kx2j fx2j kx3j fx3j kx4j fx4j ks0j fs0j ks1j fs1j ks2j fs2j ks3j fs3j ks4j fs4j ks5j fs5j
     clear kh0i fh0i kh1i fh1i kh2i fh2i kh3i fh3i kh4i fh4i kb0i fb0i kb1i fb1i ka0i fa0i ka1i fa1i ka2i fa2i ka3i fa3i ka4i fa4i ka5i fa5i kx0i fx0i kx1i fx1i kx2i fx2i kx3i fx3i kx4i fx4i ks0i fs0i ks1i fs1i ks2i fs2i ks3i fs3i ks4i fs4i ks5i fs5i
     obtain ⟨⟨kh0l, kh1l, kh2l, kh3l, kh4l⟩, fh0l, fh1l, fh2l, fh3l, fh4l⟩ := cells5 (H11.out.get 0 rfl)
     obtain ⟨⟨kb0l, kb1l⟩, fb0l, fb1l⟩ := cells2 (H11.out.get 1 rfl)
     obtain ⟨⟨ka0l, ka1l, ka2l, ka3l, ka4l, ka5l⟩, fa0l, fa1l, fa2l, fa3l, fa4l, fa5l⟩ := cells6 (H11.out.get 2 rfl)
     obtain ⟨⟨kx0l, kx1l, kx2l, kx3l, kx4l⟩, fx0l, fx1l, fx2l, fx3l, fx4l⟩ := cells5 (H11.out.get 3 rfl)
     obtain ⟨⟨ks0l, ks1l, ks2l, ks3l, ks4l, ks5l⟩, fs0l, fs1l, fs2l, fs3l, fs4l, fs5l⟩ := cells6 (H11.out.get 4 rfl)
     have n_sb_r1 : ¬ sb = r1 := H11.out.ne 4 2 rfl rfl zG84
     have n_sb_r2 : ¬ sb = r2 := H11.out.ne 4 1 rfl rfl zG84
     have n_hb_r1 : ¬ hb = r1 := H11.out.ne 0 2 rfl rfl zG84
     have n_hb_r2 : ¬ hb = r2 := H11.out.ne 0 1 rfl rfl zG84
     have n_xb_r1 : ¬ xb = r1 := H11.out.ne 3 2 rfl rfl zG84
     have n_xb_r2 : ¬ xb = r2 := H11.out.ne 3 1 rfl rfl zG84
     have n_r2_r1 : ¬ r2 = r1 := H11.out.ne 1 2 rfl rfl zG84
     try go_wp2
     go_region
     have HZ := za ((H11.out.puts (i := 2) [.int .i64 d0, .int .i64 d1, .int .i64 d2, .int .i64 d3, .int .i64 (wrap64 (d4 + (wrap64 ((rd_T38 l a2).f2 - x3)))), .slice A8 rr.length c8] 0 rfl).puts (i := 1) [.int .i64 0, .int .i64 (wrap64 ((rd_T38 l a2).f2 - x3))] 0 rfl).drew
     go_wp2
     refine bodyPost_ret (results_cc rfl _ _ r1 r2 29 36 _ _ (0, 0) (0, 0) _ _ rfl (HZ.out.get 2 rfl) Try.underlying29 rfl zG83 rfl (HZ.out.get 1 rfl) Try.underlying36 rfl zG83) rfl ?_
     have HF := HZ.out.finV (P0 := P0) (fun k_ hk => hk.1.elim (HP.out k_) (fun hh => .inr (Nat.le_trans H9.out.kept.1 hh)))
     first | exact ⟨_, rfl, HF.1, HF.2.1, HF.2.2⟩ | exact ⟨rfl, _, HF.1, HF.2.1, HF.2.2⟩
end Go.Proofs.Ytnkceaibkfbeaaa.E
