-- squeezed
-- made by pp.py (wip/tools) out of the translation; Lean checks it
import Derived.Test.YtnkceaibkfbeaaaE8
import Derived.Test.YtnkceaibkfbeaaaE4
import Derived.Test.YtnkceaibkfbeaaaE0
import Derived.Test.YtnkceaibkfbeaaaE9
namespace Go.Proofs.Ytnkceaibkfbeaaa.E
open Go.RowKit Go.Proofs.YtnkceaibkfbeaaaW.PrintWords Go.Proofs.YtnkceaibkfbeaaaW.PrintLast Go.Proofs.YtnkceaibkfbeaaaW.PrintMore
attribute [local go_sem] max2_int min2_int max_two min_two max_three min_three max_four min_four   -- for this text's walks alone
set_option linter.unusedVariables false
set_option linter.unusedSimpArgs false

abbrev q10a := @Kd.R_reads'
/-! ### spec_l14Sell: function 43 -/
/-- The lots that the reference's sale may take from. -/
def pS (x : ByteArray) (day : Int) (h : S38) : Bool := h.f0.toList == x.toList && !h.f4 && decide (h.f3 ≥ day)
def sellS (p : S38 → Bool) : Nat → List S38 → Int → Int → Option (List S38 × Int)
 | 0, _, _, _ => none
 | k + 1, l, n, c => if n > 0 then (if 0 ≤ bestN p l l.length then
   (if (rd_T38 (l.set (bestN p l l.length).toNat ⟨(rd_T38 l (bestN p l l.length)).f0, (rd_T38 l (bestN p l l.length)).f1, wrap64 ((rd_T38 l (bestN p l l.length)).f2 - min n (rd_T38 l (bestN p l l.length)).f2), (rd_T38 l (bestN p l l.length)).f3, (rd_T38 l (bestN p l l.length)).f4⟩) (bestN p l l.length)).f2 = 0
   then (spec_l14Drop.f (l.set (bestN p l l.length).toNat ⟨(rd_T38 l (bestN p l l.length)).f0, (rd_T38 l (bestN p l l.length)).f1, wrap64 ((rd_T38 l (bestN p l l.length)).f2 - min n (rd_T38 l (bestN p l l.length)).f2), (rd_T38 l (bestN p l l.length)).f3, (rd_T38 l (bestN p l l.length)).f4⟩) (bestN p l l.length)).bind fun r => sellS p k r (wrap64 (n - min n (rd_T38 l (bestN p l l.length)).f2)) (wrap64 (c + 1))
   else sellS p k (l.set (bestN p l l.length).toNat ⟨(rd_T38 l (bestN p l l.length)).f0, (rd_T38 l (bestN p l l.length)).f1, wrap64 ((rd_T38 l (bestN p l l.length)).f2 - min n (rd_T38 l (bestN p l l.length)).f2), (rd_T38 l (bestN p l l.length)).f3, (rd_T38 l (bestN p l l.length)).f4⟩) (wrap64 (n - min n (rd_T38 l (bestN p l l.length)).f2)) (wrap64 (c + 1))) else none) else some (l, c)
theorem sellS_mono (p : S38 → Bool) : ∀ k l n c, LeO (sellS p k l n c) (sellS p (k + 1) l n c)
 | 0, _, _, _ => fun r h => by simp [sellS] at h
 | k + 1, l, n, c => by
  rw [sellS, sellS]
  exact LeO.ite (LeO.ite (LeO.ite (LeO.bind (LeO.refl _) (fun _ => sellS_mono p k _ _ _)) (sellS_mono p k _ _ _)) (LeO.refl _)) (LeO.refl _)
def spec_l14Sell.f (k : Nat) (d0 d1 d2 d3 d4 : Int) (l : List S38) (x : ByteArray) (num : Int) : Option (Int × Int × Int × Int × Int × (List (S38)) × Int) :=
 (sellS (pS x d0) k l num 0).bind fun q => some (d0, d1, wrap64 (d2 + num), d3, d4, q.1, q.2)
theorem spec_l14Sell.mono : ∀ a0 a1 a2 a3 a4 a5 a6 a7 k, LeO (spec_l14Sell.f k a0 a1 a2 a3 a4 a5 a6 a7) (spec_l14Sell.f (k + 1) a0 a1 a2 a3 a4 a5 a6 a7) := fun _ _ _ _ _ _ _ _ _ => LeO.bind (sellS_mono _ _ _ _ _) (fun _ => LeO.refl _)
set_option maxHeartbeats 8000000 in
set_option maxRecDepth 100000 in
theorem spec_l14Sell.calls (k : Nat) (d0 d1 d2 d3 d4 : Int) (P0 : Nat → Prop) (u : Value) (l : List S38) (x : ByteArray) (num r1_ r2_ r3_ r4_ r5_ : Int) (r6_ : List S38) (r7_ : Int) (w0 w : World) (hB : Below w0.heap.size w0 w) (ho : Kd.R k38 38 w w0.heap.size P0 u l) (h : spec_l14Sell.f k d0 d1 d2 d3 d4 l x num = some (r1_, r2_, r3_, r4_, r5_, r6_, r7_)) :
  Calls Try.prog 43 #[.agg (zs6 d0 d1 d2 d3 d4 u), .string x, .int .i64 num] w fun e w' => ∃ v5_ : Value, e = .returned (.tuple #[.agg (zs6 r1_ r2_ r3_ r4_ r5_ v5_), .int .i64 r7_]) ∧ Kd.R k38 38 w' w0.heap.size (fun k_ => (P0 k_ ∨ w.heap.size ≤ k_)) v5_ r6_ ∧ Below w0.heap.size w0 w' ∧ Kept w w' (fun k_ => P0 k_) := by
 have hu36 := Try.underlying36
 have hu38 := Try.underlying38
 have hu29 := Try.underlying29
 have hz29 := szero29
 have hz38 := szero38
 unfold spec_l14Sell.f at h
 obtain ⟨A, cu, rfl⟩ := zx ho
 obtain ⟨H0, HP⟩ := zD2 (Bag.mk1 hB ho) (show ∀ k_, (fun k => P0 k ∧ k < w.heap.size) k_ → P0 k_ ∨ w.heap.size ≤ k_ from fun _ hk => .inl hk.1)
 clear hB ho
 replace h := Option.bind_eq_some_iff.mp h
 obtain ⟨⟨lz, cz⟩, hq, h⟩ := h
 simp only [Option.some.injEq, Prod.mk.injEq] at h
 obtain ⟨rfl, rfl, rfl, rfl, rfl, rfl, rfl⟩ := h
 have HQ := za hq
 clear hq
 go_enter Try.func43, Try.ntmps43
 go_upto_region 1 with (first | (refine box_bag H0.out 3 (zs6 d0 d1 d2 d3 d4 (.slice A l.length cu)) 29 rfl ?_; intro sb w1 h_; have H1 := za h_; clear h_) | (refine box_bag H1.out 6 (zs6 0 0 0 0 0 (.slice none 0 0)) 29 rfl ?_; intro r1 w2 h_; have H2 := za h_; clear h_))
 clear H0 H1 hz29
 obtain ⟨⟨ka0c, ka1c, ka2c, ka3c, ka4c, ka5c⟩, fa0c, fa1c, fa2c, fa3c, fa4c, fa5c⟩ := cells6 (H2.out.get 0 rfl)
 obtain ⟨⟨ks0c, ks1c, ks2c, ks3c, ks4c, ks5c⟩, fs0c, fs1c, fs2c, fs3c, fs4c, fs5c⟩ := cells6 (H2.out.get 1 rfl)
 go_wp2
 have H3 : Aside0 (Bag k38 38 w0 w (fun k => P0 k ∧ k < w.heap.size) w.heap.size (.slice A l.length cu) l [(r1, (zs6 0 0 0 0 0 (.slice none 0 0)), 29), (sb, (zs6 d0 d1 (wrap64 (d2 + num)) d3 d4 (.slice A l.length cu)), 29)] (w2.setCell ⟨sb, 2, none⟩ (.int .i64 (wrap64 (d2 + num))))) := ⟨H2.out.put 1 2 (.int .i64 (wrap64 (d2 + num))) rfl rfl⟩
 generalize (w2.setCell ⟨sb, 2, none⟩ (.int .i64 (wrap64 (d2 + num)))) = w3 at H3 ⊢
 clear ka0c fa0c ka1c fa1c ka2c fa2c ka3c fa3c ka4c fa4c ka5c fa5c ks0c fs0c ks1c fs1c ks2c fs2c ks3c fs3c ks4c fs4c ks5c fs5c
 clear H2
 go_loopg [2, 8] k (fun kq v2 v8 wr => ∃ (n cc : Int) (uu : Value) (ll : List S38) (Q : Nat → Prop), v2 = .int .i64 n ∧ v8 = .int .i64 cc ∧ Aside0 (sellS (pS x d0) kq ll n cc = some (lz, cz)) ∧ Aside0 (Bag k38 38 w0 w Q w.heap.size (uu) ll [(r1, (zs6 0 0 0 0 0 (.slice none 0 0)), 29), (sb, (zs6 d0 d1 (wrap64 (d2 + num)) d3 d4 uu), 29)] wr) ∧ Aside0 (∀ k_, Q k_ → P0 k_ ∨ w.heap.size ≤ k_))
 case atStart => exact ⟨num, 0, _, l, _, rfl, rfl, HQ, H3, HP⟩
 case round =>
  obtain ⟨n, cc, uu, ll, Q, rfl, rfl, HS, HR, HPQ⟩ := hrel
  clear HQ H3 HP
  cases gk with
  | zero => exact absurd HS.out (by simp [sellS])
  | succ gq =>
   have hs := HS.out
   clear HS
   unfold sellS at hs
   have HMK := za (Nat.lt_succ_self gq)
   by_cases hn : n > 0
   rotate_left
   ·rw [if_neg hn] at hs
    simp only [Option.some.injEq, Prod.mk.injEq] at hs
    obtain ⟨rfl, rfl⟩ := hs
    have hnb := decide_eq_false hn
    have hnb' : decide (0 < n) = false := decide_eq_false hn
    obtain ⟨Au, cu, rfl⟩ := zx HR.out.row
    clear hn
    obtain ⟨⟨ka0r_, ka1r_, ka2r_, ka3r_, ka4r_, ka5r_⟩, fa0r_, fa1r_, fa2r_, fa3r_, fa4r_, fa5r_⟩ := cells6 (HR.out.get 0 rfl)
    obtain ⟨⟨ks0r_, ks1r_, ks2r_, ks3r_, ks4r_, ks5r_⟩, fs0r_, fs1r_, fs2r_, fs3r_, fs4r_, fs5r_⟩ := cells6 (HR.out.get 1 rfl)
    go_wp2_with (first | (refine store_bag HR.out 0 6 rfl ?_; intro wz h_; have HZ := za h_; clear h_))
    refine bodyPost_ret (results_ct rfl _ _ r1 29 (zs6 d0 d1 (wrap64 (d2 + num)) d3 d4 (.slice Au ll.length cu)) (0, 0) _ rfl (HZ.out.get 0 rfl) Try.underlying29 rfl zG83) rfl ?_
    have HF := HZ.out.finV (P0 := P0) HPQ.out
    first | exact ⟨_, rfl, HF.1, HF.2.1, HF.2.2⟩ | exact ⟨rfl, _, HF.1, HF.2.1, HF.2.2⟩
   rw [if_pos hn] at hs
   have hnb := decide_eq_true hn
   have hnb' : decide (0 < n) = true := decide_eq_true hn
   clear hn
   by_cases hb0 : 0 ≤ bestN (pS x d0) ll ll.length
   rotate_left
   ·rw [if_neg hb0] at hs
    cases hs
   rw [if_pos hb0] at hs
   obtain ⟨BE, BE0⟩ := zD2 hs hb0
   clear hs hb0
   have hin := bestN_in (pS x d0) ll ll.length
   obtain ⟨go, cu, hu_, hge_, _⟩ := zam HR.out.row (by have := BE0.out; omega)
   subst hu_
   obtain ⟨GE, GP, BE1⟩ := zD3 hge_ (HR.out.row.1 go rfl) hin.2
   clear hin hge_
   go_wp2
   go_loopg [9, 10] ll.length (fun kq v9 v10 wi => ∃ y : Int, v9 = .int .i64 (bestN (pS x d0) ll y.toNat) ∧ v10 = .int .i64 y ∧ 0 ≤ y ∧ y ≤ ll.length ∧ ll.length - y.toNat ≤ kq ∧ Aside0 (Bag k38 38 w0 w Q w.heap.size (.slice (some ⟨go, 0, none⟩) ll.length cu) ll [(r1, (zs6 0 0 0 0 0 (.slice none 0 0)), 29), (sb, (zs6 d0 d1 (wrap64 (d2 + num)) d3 d4 (.slice (some ⟨go, 0, none⟩) ll.length cu)), 29)] wi))
   case atStart => exact ⟨0, rfl, rfl, by omega, by omega, by omega, HR⟩
   case round =>
    obtain ⟨y, rfl, rfl, hy0, hyl, hgk, HI⟩ := hrel
    clear HR
    obtain ⟨HK, Y0, HMX⟩ := zD3 hgk hy0 (Kd.C_max (q10a HI.out.row).2.2)
    have qs0 : wr.cell? ⟨sb, 0, none⟩ = some (.int .i64 d0) := (HI.out.cell 1 rfl 0).trans rfl
    have qs5 : wr.cell? ⟨sb, 5, none⟩ = some (.slice (some ⟨go, 0, none⟩) ll.length cu) := (HI.out.cell 1 rfl 5).trans rfl
    by_cases hlt : y < (ll.length : Int)
    ·have hltb := decide_eq_true hlt
     obtain ⟨Y1, w1⟩ := zD2 hlt (show wrap64 (y + 1) = y + 1 by have := HMX.out; unfold wrap64; omega)
     have hbn := bestN_succ (pS x d0) ll y.toNat
     have hbi := bestN_in (pS x d0) ll y.toNat
     have HNx := za (show bestN (pS x d0) ll (y + 1).toNat = bestS (pS x d0) ll (bestN (pS x d0) ll y.toNat) y.toNat from by rw [← hbn]; congr 1; omega)
     generalize bestN (pS x d0) ll y.toNat = bb at hbi HNx ⊢
     have HBI := za (show -1 ≤ bb ∧ bb < y from ⟨hbi.1, by have := hbi.2; omega⟩)
     clear hbi hbn hgk hyl
     obtain ⟨c0, c1, c2, c3, c4, cf⟩ := lot_cells HI.out.row hy0 hlt
     replace hy0 := eq_true hy0
     replace hlt := eq_true hlt
     go_upto_region 9 with (first | (refine box_bag HI.out 11 (zl5 ByteArray.empty 0 0 0 false) 38 rfl ?_; intro hb w10 h_; have H10 := za h_; obtain ⟨⟨zhb0, zhb1, zhb2, zhb3, zhb4⟩, yhb0, yhb1, yhb2, yhb3, yhb4⟩ := cells5 (H10.out.get 0 rfl); clear h_) | fail)
     have H11 := za (H10.out.puts (i := 0) [.string (rd_T38 ll y).f0, .int .i64 (rd_T38 ll y).f1, .int .i64 (rd_T38 ll y).f2, .int .i64 (rd_T38 ll y).f3, .bool (rd_T38 ll y).f4] 0 rfl)
     replace H11 : Aside0 (Bag k38 38 w0 w Q w.heap.size (.slice (some ⟨go, 0, none⟩) ll.length cu) ll ((hb, (zl5 ((rd_T38 ll y).f0) ((rd_T38 ll y).f1) ((rd_T38 ll y).f2) ((rd_T38 ll y).f3) ((rd_T38 ll y).f4)), 38) :: [(r1, (zs6 0 0 0 0 0 (.slice none 0 0)), 29), (sb, (zs6 d0 d1 (wrap64 (d2 + num)) d3 d4 (.slice (some ⟨go, 0, none⟩) ll.length cu)), 29)]) (((((w10.setCell ⟨hb, 0, none⟩ (.string (rd_T38 ll y).f0)).setCell ⟨hb, 1, none⟩ (.int .i64 (rd_T38 ll y).f1)).setCell ⟨hb, 2, none⟩ (.int .i64 (rd_T38 ll y).f2)).setCell ⟨hb, 3, none⟩ (.int .i64 (rd_T38 ll y).f3)).setCell ⟨hb, 4, none⟩ (.bool (rd_T38 ll y).f4))) := H11
     generalize (((((w10.setCell ⟨hb, 0, none⟩ (.string (rd_T38 ll y).f0)).setCell ⟨hb, 1, none⟩ (.int .i64 (rd_T38 ll y).f1)).setCell ⟨hb, 2, none⟩ (.int .i64 (rd_T38 ll y).f2)).setCell ⟨hb, 3, none⟩ (.int .i64 (rd_T38 ll y).f3)).setCell ⟨hb, 4, none⟩ (.bool (rd_T38 ll y).f4)) = w11 at H11 ⊢
     clear c0 c1 c2 c3 c4 cf qs0 qs5 H10 HI zhb0 yhb0 zhb1 yhb1 zhb2 yhb2 zhb3 yhb3 zhb4 yhb4
     have e3 : ll.getD y.toNat z38 = rd_T38 ll y := rfl
     have HEY := za (show ((y.toNat : Nat) : Int) = y from Int.toNat_of_nonneg Y0.out)
     obtain ⟨⟨kh0l, kh1l, kh2l, kh3l, kh4l⟩, fh0l, fh1l, fh2l, fh3l, fh4l⟩ := cells5 (H11.out.get 0 rfl)
     obtain ⟨⟨ka0l, ka1l, ka2l, ka3l, ka4l, ka5l⟩, fa0l, fa1l, fa2l, fa3l, fa4l, fa5l⟩ := cells6 (H11.out.get 1 rfl)
     obtain ⟨⟨ks0l, ks1l, ks2l, ks3l, ks4l, ks5l⟩, fs0l, fs1l, fs2l, fs3l, fs4l, fs5l⟩ := cells6 (H11.out.get 2 rfl)
     cases hq : ((rd_T38 ll y).f0.toList == x.toList) with
     | false =>
      have hq' : ((rd_T38 ll y).f0.toList = x.toList) = False := eq_false (by simpa using hq)
      have HN := za (show bestN (pS x d0) ll (y + 1).toNat = bb from by rw [HNx.out, bestS, e3, show pS x d0 (rd_T38 ll y) = false from by unfold pS; rw [hq]; rfl]; rfl)
      clear e3
      go_wp2
      repeat (go_quiet (fail); try go_wp2)
      go_roundg (ll.length - (y.toNat + 1))
      case measure => have := HK.out; have := Y1.out; have := Y0.out; omega
      case rel => exact ⟨y + 1, by rw [HN.out], by rw [w1.out], zH90, zH89, zH90, ⟨bag_tail (H11.out.drewN _)⟩⟩
     | true =>
      have hq' : ((rd_T38 ll y).f0.toList = x.toList) = True := eq_true (by simpa using hq)
      cases hh : (rd_T38 ll y).f4 with
      | true =>
       rw [hh] at kh4l
       have HN := za (show bestN (pS x d0) ll (y + 1).toNat = bb from by rw [HNx.out, bestS, e3, show pS x d0 (rd_T38 ll y) = false from by unfold pS; rw [hq, hh]; rfl]; rfl)
       clear e3
       go_wp2
       repeat (go_quiet (fail); try go_wp2)
       go_roundg (ll.length - (y.toNat + 1))
       case measure => have := HK.out; have := Y1.out; have := Y0.out; omega
       case rel => exact ⟨y + 1, by rw [HN.out], by rw [w1.out], zH90, zH89, zH90, ⟨bag_tail (H11.out.drewN _)⟩⟩
      | false =>
       rw [hh] at kh4l
       by_cases hd : (rd_T38 ll y).f3 ≥ d0
       rotate_left
       ·have hdb := decide_eq_false hd
        have hdb' : decide (d0 ≤ (rd_T38 ll y).f3) = false := decide_eq_false hd
        have HN := za (show bestN (pS x d0) ll (y + 1).toNat = bb from by rw [HNx.out, bestS, e3, show pS x d0 (rd_T38 ll y) = false from by unfold pS; rw [hq, hh, hdb]; rfl]; rfl)
        clear hd
        clear e3
        go_wp2
        repeat (go_quiet (fail); try go_wp2)
        go_roundg (ll.length - (y.toNat + 1))
        case measure => have := HK.out; have := Y1.out; have := Y0.out; omega
        case rel => exact ⟨y + 1, by rw [HN.out], by rw [w1.out], zH90, zH89, zH90, ⟨bag_tail (H11.out.drewN _)⟩⟩
       have hdb := decide_eq_true hd
       have hdb' : decide (d0 ≤ (rd_T38 ll y).f3) = true := decide_eq_true hd
       have hp := za (show pS x d0 (rd_T38 ll y) = true from by unfold pS; rw [hq, hh, hdb]; rfl)
       clear hd
       by_cases hneg : bb < 0
       ·have hnegb := decide_eq_true hneg
        have HN := za (show bestN (pS x d0) ll (y + 1).toNat = y from by rw [HNx.out, bestS, e3, hp.out, hnegb]; exact HEY.out)
        clear hneg
        clear e3
        go_wp2
        repeat (go_quiet (fail); try go_wp2)
        go_roundg (ll.length - (y.toNat + 1))
        case measure => have := HK.out; have := Y1.out; have := Y0.out; omega
        case rel => exact ⟨y + 1, by rw [HN.out], by rw [w1.out], zH90, zH89, zH90, ⟨bag_tail (H11.out.drewN _)⟩⟩
       ·have hnegb := decide_eq_false hneg
        obtain ⟨BB0, BB1⟩ := zD2 (show 0 ≤ bb by omega) (show bb < (ll.length : Int) by have := HBI.out.2; have := Y1.out; omega)
        have bt0 : (0 ≤ bb) = True := eq_true BB0.out
        have bt1 : (bb < (ll.length : Int)) = True := eq_true BB1.out
        obtain ⟨m0, m1, m2, m3, m4, mf⟩ := lot_cells H11.out.row BB0.out BB1.out
        clear hneg mf
        by_cases hcmp : (rd_T38 ll y).f3 < (rd_T38 ll bb).f3
        ·have hcb := decide_eq_true hcmp
         have HN := za (show bestN (pS x d0) ll (y + 1).toNat = y from by rw [HNx.out, bestS, e3, hp.out, hcb, Bool.or_true]; exact HEY.out)
         clear hcmp
         clear e3
         go_wp2
         repeat (go_quiet (fail); try go_wp2)
         go_roundg (ll.length - (y.toNat + 1))
         case measure => have := HK.out; have := Y1.out; have := Y0.out; omega
         case rel => exact ⟨y + 1, by rw [HN.out], by rw [w1.out], zH90, zH89, zH90, ⟨bag_tail (H11.out.drewN _)⟩⟩
        ·have hcb := decide_eq_false hcmp
         have HN := za (show bestN (pS x d0) ll (y + 1).toNat = bb from by rw [HNx.out, bestS, e3, hp.out, hcb, hnegb]; rfl)
         clear hcmp
         clear e3
         go_wp2
         repeat (go_quiet (fail); try go_wp2)
         go_roundg (ll.length - (y.toNat + 1))
         case measure => have := HK.out; have := Y1.out; have := Y0.out; omega
         case rel => exact ⟨y + 1, by rw [HN.out], by rw [w1.out], zH90, zH89, zH90, ⟨bag_tail (H11.out.drewN _)⟩⟩
    ·have hltb := decide_eq_false hlt
     have hye : y.toNat = ll.length := by omega
     rw [hye]
     clear hye hlt hyl hgk qs0 qs5
     have HR := HI
     clear HI HK Y0
     have qs5 : wr.cell? ⟨sb, 5, none⟩ = some (.slice (some ⟨go, 0, none⟩) ll.length cu) := (HR.out.cell 1 rfl 5).trans rfl
     obtain ⟨c0, c1, c2, c3, c4, cf⟩ := lot_cells HR.out.row BE0.out BE1.out
     have cf2 := cf 2
     generalize bestN (pS x d0) ll ll.length = be at BE BE0 BE1 c0 c1 c2 c3 c4 cf cf2 ⊢
     have be0 : (0 ≤ be) = True := eq_true BE0.out
     have be1 : (be < (ll.length : Int)) = True := eq_true BE1.out
     rcases Int.lt_or_le (rd_T38 ll be).f2 n with hmn | hmn
     ·have hm1 : ((rd_T38 ll be).f2 < n) = True := eq_true hmn
      have hme : min n (rd_T38 ll be).f2 = (rd_T38 ll be).f2 := by omega
      rw [hme, show wrap64 ((rd_T38 ll be).f2 - (rd_T38 ll be).f2) = 0 by (unfold wrap64; omega)] at BE
      clear hmn
      go_upto_region 15 with (fail)
      have H12 : Aside0 (Bag k38 38 w0 w Q w.heap.size (.slice (some ⟨go, 0, none⟩) ll.length cu) (ll.set be.toNat ⟨(rd_T38 ll be).f0, (rd_T38 ll be).f1, 0, (rd_T38 ll be).f3, (rd_T38 ll be).f4⟩) [(r1, (zs6 0 0 0 0 0 (.slice none 0 0)), 29), (sb, (zs6 d0 d1 (wrap64 (d2 + num)) d3 d4 (.slice (some ⟨go, 0, none⟩) ll.length cu)), 29)] (wr.setCell ⟨go, be.toNat * 5 + 2, none⟩ (.int .i64 0))) := ⟨HR.out.rowput (lot_num HR.out.row BE0.out BE1.out 0) GE.out GP.out⟩
      generalize (wr.setCell ⟨go, be.toNat * 5 + 2, none⟩ (.int .i64 0)) = w12 at H12 ⊢
      have HLE := za (show ll.length = (ll.set be.toNat ⟨(rd_T38 ll be).f0, (rd_T38 ll be).f1, 0, (rd_T38 ll be).f3, (rd_T38 ll be).f4⟩).length by rw [List.length_set])
      rw [HLE.out] at H12 BE1 be1
      generalize hLS : (ll.set be.toNat ⟨(rd_T38 ll be).f0, (rd_T38 ll be).f1, 0, (rd_T38 ll be).f3, (rd_T38 ll be).f4⟩) = ls at H12 HLE BE BE1 be1
      clear hLS c0 c1 c2 c3 c4 cf cf2 qs5 HR hm1 hme
      have qs5 : w12.cell? ⟨sb, 5, none⟩ = some (.slice (some ⟨go, 0, none⟩) ls.length cu) := (H12.out.cell 1 rfl 5).trans rfl
      have fs5 := H12.out.froz 1 rfl 5
      obtain ⟨c0, c1, c2, c3, c4, cf⟩ := lot_cells H12.out.row BE0.out BE1.out
      by_cases kz : (rd_T38 ls be).f2 = 0
      ·have h := BE.out
       rw [if_pos kz] at h
       have kzb := beq_iff_eq.mpr kz
       clear kz BE
       replace h := Option.bind_eq_some_iff.mp h
       obtain ⟨rr, hd_, h⟩ := h
       obtain ⟨HD, BE⟩ := zD2 hd_ h
       clear hd_ h
       go_wp2_with (first | (go_at_call 57; refine (spec_l14Drop.calls _ _ ls be rr _ (q10a H12.out.row).2.2 (q10a H12.out.row).2.1 HD.out).mono ?_; rintro e w13 ⟨v8, rfl, hr8, hb8⟩; obtain ⟨A8, c8, rfl⟩ := zx hr8; have H13 := za (H12.out.newrow hr8 hb8); have qs6 : w13.cell? ⟨sb, 5, none⟩ = some (.slice (some ⟨go, 0, none⟩) ls.length cu) := (H13.out.cell 1 rfl 5).trans rfl; have fs6 := H13.out.froz 1 rfl 5; clear hr8 hb8))
       go_roundg gq
       case measure => exact HMK.out
       case rel => exact ⟨_, _, _, rr, _, rfl, rfl, BE, ⟨H13.out.put 1 5 (.slice A8 rr.length c8) rfl rfl⟩, ⟨fun k_ hk => hk.1.elim (HPQ.out k_) (fun hh => .inr (Nat.le_trans H12.out.kept.1 hh))⟩⟩
      ·have h := BE.out
       rw [if_neg kz] at h
       have kzb := beq_eq_false_iff_ne.mpr kz
       clear kz BE
       have BE := za h
       clear h
       go_wp2
       go_roundg gq
       case measure => exact HMK.out
       case rel => exact ⟨_, _, _, ls, Q, rfl, rfl, BE, H12, HPQ⟩
     ·have hm1 : ((rd_T38 ll be).f2 < n) = False := eq_false (by omega)
      have hme : min n (rd_T38 ll be).f2 = n := by omega
      rw [hme, show wrap64 (n - n) = 0 by (unfold wrap64; omega)] at BE
      clear hmn
      go_upto_region 15 with (fail)
      have H12 : Aside0 (Bag k38 38 w0 w Q w.heap.size (.slice (some ⟨go, 0, none⟩) ll.length cu) (ll.set be.toNat ⟨(rd_T38 ll be).f0, (rd_T38 ll be).f1, (wrap64 ((rd_T38 ll be).f2 - n)), (rd_T38 ll be).f3, (rd_T38 ll be).f4⟩) [(r1, (zs6 0 0 0 0 0 (.slice none 0 0)), 29), (sb, (zs6 d0 d1 (wrap64 (d2 + num)) d3 d4 (.slice (some ⟨go, 0, none⟩) ll.length cu)), 29)] (wr.setCell ⟨go, be.toNat * 5 + 2, none⟩ (.int .i64 (wrap64 ((rd_T38 ll be).f2 - n))))) := ⟨HR.out.rowput (lot_num HR.out.row BE0.out BE1.out (wrap64 ((rd_T38 ll be).f2 - n))) GE.out GP.out⟩
      generalize (wr.setCell ⟨go, be.toNat * 5 + 2, none⟩ (.int .i64 (wrap64 ((rd_T38 ll be).f2 - n)))) = w12 at H12 ⊢
      have HLE := za (show ll.length = (ll.set be.toNat ⟨(rd_T38 ll be).f0, (rd_T38 ll be).f1, (wrap64 ((rd_T38 ll be).f2 - n)), (rd_T38 ll be).f3, (rd_T38 ll be).f4⟩).length by rw [List.length_set])
      rw [HLE.out] at H12 BE1 be1
      generalize hLS : (ll.set be.toNat ⟨(rd_T38 ll be).f0, (rd_T38 ll be).f1, (wrap64 ((rd_T38 ll be).f2 - n)), (rd_T38 ll be).f3, (rd_T38 ll be).f4⟩) = ls at H12 HLE BE BE1 be1
      clear hLS c0 c1 c2 c3 c4 cf cf2 qs5 HR hm1 hme
      have qs5 : w12.cell? ⟨sb, 5, none⟩ = some (.slice (some ⟨go, 0, none⟩) ls.length cu) := (H12.out.cell 1 rfl 5).trans rfl
      have fs5 := H12.out.froz 1 rfl 5
      obtain ⟨c0, c1, c2, c3, c4, cf⟩ := lot_cells H12.out.row BE0.out BE1.out
      by_cases kz : (rd_T38 ls be).f2 = 0
      ·have h := BE.out
       rw [if_pos kz] at h
       have kzb := beq_iff_eq.mpr kz
       clear kz BE
       replace h := Option.bind_eq_some_iff.mp h
       obtain ⟨rr, hd_, h⟩ := h
       obtain ⟨HD, BE⟩ := zD2 hd_ h
       clear hd_ h
       go_wp2_with (first | (go_at_call 57; refine (spec_l14Drop.calls _ _ ls be rr _ (q10a H12.out.row).2.2 (q10a H12.out.row).2.1 HD.out).mono ?_; rintro e w13 ⟨v8, rfl, hr8, hb8⟩; obtain ⟨A8, c8, rfl⟩ := zx hr8; have H13 := za (H12.out.newrow hr8 hb8); have qs6 : w13.cell? ⟨sb, 5, none⟩ = some (.slice (some ⟨go, 0, none⟩) ls.length cu) := (H13.out.cell 1 rfl 5).trans rfl; have fs6 := H13.out.froz 1 rfl 5; clear hr8 hb8))
       go_roundg gq
       case measure => exact HMK.out
       case rel => exact ⟨_, _, _, rr, _, rfl, rfl, BE, ⟨H13.out.put 1 5 (.slice A8 rr.length c8) rfl rfl⟩, ⟨fun k_ hk => hk.1.elim (HPQ.out k_) (fun hh => .inr (Nat.le_trans H12.out.kept.1 hh))⟩⟩
      ·have h := BE.out
       rw [if_neg kz] at h
       have kzb := beq_eq_false_iff_ne.mpr kz
       clear kz BE
       have BE := za h
       clear h
       go_wp2
       go_roundg gq
       case measure => exact HMK.out
       case rel => exact ⟨_, _, _, ls, Q, rfl, rfl, BE, H12, HPQ⟩
end Go.Proofs.Ytnkceaibkfbeaaa.E
