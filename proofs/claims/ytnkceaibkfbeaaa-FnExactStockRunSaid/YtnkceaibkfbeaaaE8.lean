-- squeezed
-- made by pp.py (wip/tools) out of the translation; Lean checks it
import Derived.Test.YtnkceaibkfbeaaaE4
import Derived.Test.YtnkceaibkfbeaaaE0
import Derived.Test.YtnkceaibkfbeaaaE5
import Derived.Test.YtnkceaibkfbeaaaE7
namespace Go.Proofs.Ytnkceaibkfbeaaa.E
open Go.RowKit Go.Proofs.YtnkceaibkfbeaaaW.PrintWords Go.Proofs.YtnkceaibkfbeaaaW.PrintLast Go.Proofs.YtnkceaibkfbeaaaW.PrintMore
attribute [local go_sem] max2_int min2_int max_two min_two max_three min_three max_four min_four   -- for this text's walks alone
set_option linter.unusedVariables false
set_option linter.unusedSimpArgs false

abbrev q8a := @blk_cell
/-! ### spec_l14Receive: function 41 -/
theorem szero29 (w : World) : (zeroValue 29).run Try.prog w = .ok (.agg (zs6 0 0 0 0 0 (.slice none 0 0))) w := by
 obtain ⟨i, hi, he⟩ := Option.map_eq_some_iff.mp (show (Try.prog.info? 29).map (fun i => (i.zero, i.size, i.bytes)) = some (some (.agg (zs6 0 0 0 0 0 (.slice none 0 0))), 6, 64) by kernel_rfl)
 simp only [Prod.mk.injEq] at he
 simp [zeroValue, typeInfo, hi, he.1]
theorem szero36 (w : World) : (zeroValue 36).run Try.prog w = .ok (.agg (zo2 0 0)) w := by
 obtain ⟨i, hi, he⟩ := Option.map_eq_some_iff.mp (show (Try.prog.info? 36).map (fun i => (i.zero, i.size, i.bytes)) = some (some (.agg (zo2 0 0)), 2, 16) by kernel_rfl)
 simp only [Prod.mk.injEq] at he
 simp [zeroValue, typeInfo, hi, he.1]
theorem szero38 (w : World) : (zeroValue 38).run Try.prog w = .ok (.agg (zl5 ByteArray.empty 0 0 0 false)) w := by
 obtain ⟨i, hi, he⟩ := Option.map_eq_some_iff.mp (show (Try.prog.info? 38).map (fun i => (i.zero, i.size, i.bytes)) = some (some (.agg (zl5 ⟨#[]⟩ 0 0 0 false)), 5, 48) by kernel_rfl)
 simp only [Prod.mk.injEq] at he
 simp [zeroValue, typeInfo, hi, he.1]
 rfl
theorem Bag.ne {α : Type} {d : Kd α} {e : Nat} {w0 w : World} {P : Nat → Prop} {gi : Nat} {u : Value} {l : List α} {L : List (Nat × Array Value × TypeId)} {w' : World} (h : Bag d e w0 w P gi u l L w') (i j : Nat) {g g' : Nat} {cs cs' : Array Value} {t t' : TypeId} (hi : L[i]? = some (g, cs, t)) (hj : L[j]? = some (g', cs', t')) (hij : i ≠ j) : g ≠ g' := by
 intro he
 subst he
 apply hij
 have a1 : (L.map (·.1))[i]? = some g := by rw [List.getElem?_map, hi]; rfl
 have a2 : (L.map (·.1))[j]? = some g := by rw [List.getElem?_map, hj]; rfl
 exact (List.getElem?_inj (List.getElem?_eq_some_iff.1 a1).1 h.nodup).1 (a1.trans a2.symm)
theorem Bag.drawn {α : Type} {d : Kd α} {e : Nat} {w0 w : World} {P : Nat → Prop} {gi : Nat} {u : Value} {l : List α} {L : List (Nat × Array Value × TypeId)} {w' W : World} (h : Bag d e w0 w P gi u l L w') (hd : Drawn0 w' W) : Bag d e w0 w P gi u l L W := by
 obtain ⟨n, rfl⟩ := hd
 exact h.drewN n
theorem Bag.appended {α : Type} {d : Kd α} {e : Nat} {w0 w : World} {P : Nat → Prop} {gi : Nat} {u : Value} {l : List α} {L : List (Nat × Array Value × TypeId)} {w' W : World} (h : Bag d e w0 w P gi u l L w') {v : Value} {r : List α} (hr : d.R e W w0.heap.size (fun k => P k ∨ w'.heap.size ≤ k) v r) (hb : Below w0.heap.size w0 W) (hg : w'.grownBy W u.ownBlock) : Bag d e w0 w (fun k => (P k ∨ w'.heap.size ≤ k) ∧ k < W.heap.size) gi v r L W :=
 h.handed hr hb (zah hg (Kept.refl w' P) (fun k hk => .inl (h.row.1 k hk)))
theorem cells2 {w : World} {g : Nat} {t : TypeId} {v0 v1 : Value} (h : w.heap[g]? = some (.cells #[v0, v1] t (0, 0))) : (w.cell? ⟨g, 0, none⟩ = some v0 ∧ w.cell? ⟨g, 1, none⟩ = some v1) ∧ (w.frozen? ⟨g, 0, none⟩ = false ∧ w.frozen? ⟨g, 1, none⟩ = false) := ⟨⟨(q8a h 0).trans rfl, (q8a h 1).trans rfl⟩, zc h 0, zc h 1⟩
theorem cells5 {w : World} {g : Nat} {t : TypeId} {v0 v1 v2 v3 v4 : Value} (h : w.heap[g]? = some (.cells #[v0, v1, v2, v3, v4] t (0, 0))) : (w.cell? ⟨g, 0, none⟩ = some v0 ∧ w.cell? ⟨g, 1, none⟩ = some v1 ∧ w.cell? ⟨g, 2, none⟩ = some v2 ∧ w.cell? ⟨g, 3, none⟩ = some v3 ∧ w.cell? ⟨g, 4, none⟩ = some v4) ∧ (w.frozen? ⟨g, 0, none⟩ = false ∧ w.frozen? ⟨g, 1, none⟩ = false ∧ w.frozen? ⟨g, 2, none⟩ = false ∧ w.frozen? ⟨g, 3, none⟩ = false ∧ w.frozen? ⟨g, 4, none⟩ = false) :=
 ⟨⟨(q8a h 0).trans rfl, (q8a h 1).trans rfl, (q8a h 2).trans rfl, (q8a h 3).trans rfl, (q8a h 4).trans rfl⟩, zc h 0, zc h 1, zc h 2, zc h 3, zc h 4⟩
theorem cells6 {w : World} {g : Nat} {t : TypeId} {v0 v1 v2 v3 v4 v5 : Value} (h : w.heap[g]? = some (.cells #[v0, v1, v2, v3, v4, v5] t (0, 0))) : (w.cell? ⟨g, 0, none⟩ = some v0 ∧ w.cell? ⟨g, 1, none⟩ = some v1 ∧ w.cell? ⟨g, 2, none⟩ = some v2 ∧ w.cell? ⟨g, 3, none⟩ = some v3 ∧ w.cell? ⟨g, 4, none⟩ = some v4 ∧ w.cell? ⟨g, 5, none⟩ = some v5) ∧ (w.frozen? ⟨g, 0, none⟩ = false ∧ w.frozen? ⟨g, 1, none⟩ = false ∧ w.frozen? ⟨g, 2, none⟩ = false ∧ w.frozen? ⟨g, 3, none⟩ = false ∧ w.frozen? ⟨g, 4, none⟩ = false ∧ w.frozen? ⟨g, 5, none⟩ = false) :=
 ⟨⟨(q8a h 0).trans rfl, (q8a h 1).trans rfl, (q8a h 2).trans rfl, (q8a h 3).trans rfl, (q8a h 4).trans rfl, (q8a h 5).trans rfl⟩, zc h 0, zc h 1, zc h 2, zc h 3, zc h 4, zc h 5⟩
def spec_l14Receive.f (k : Nat) (d0 d1 d2 d3 d4 : Int) (l : List S38) (x0 : Int) (x1 : ByteArray) (x2 x3 x4 : Int) : Option (Int × Int × Int × Int × Int × (List (S38)) × Int × Int) :=
 (spec_NameOK.f k x1).bind fun t0 => if t0 = true then
  (spec_l01In.f x2 1 1000000).bind fun t1 => if t1 = true then
   (spec_l01In.f x3 1 100000).bind fun t2 => if t2 = true then
    (spec_l01In.f x4 d0 100000).bind fun t3 => if t3 = true then
     (spec_l14Find.f k l x1 x2).bind fun a =>
      if a ≥ 0 then some (d0, d1, d2, d3, d4, l, 7, 0)
      else if (l.length : Int) = 60 then some (d0, d1, d2, d3, d4, l, 14, 0)
      else if l.length < 2932031007402 then some (d0, wrap64 (d1 + x3), d2, d3, d4, l ++ [(⟨x1, x2, x3, x4, false⟩ : S38)], 0, x3) else none
    else some (d0, d1, d2, d3, d4, l, 5, 0)
   else some (d0, d1, d2, d3, d4, l, 5, 0)
  else some (d0, d1, d2, d3, d4, l, 5, 0)
 else some (d0, d1, d2, d3, d4, l, 6, 0)
theorem spec_l14Receive.mono : ∀ a0 a1 a2 a3 a4 a5 a6 a7 a8 a9 a10 k, LeO (spec_l14Receive.f k a0 a1 a2 a3 a4 a5 a6 a7 a8 a9 a10) (spec_l14Receive.f (k + 1) a0 a1 a2 a3 a4 a5 a6 a7 a8 a9 a10) := by
 intro a0 a1 a2 a3 a4 a5 a6 a7 a8 a9 a10 k
 unfold spec_l14Receive.f
 refine LeO.bind (spec_NameOK.mono _ _) (fun _ => LeO.ite (LeO.bind (LeO.refl _) (fun _ => LeO.ite (LeO.bind (LeO.refl _) (fun _ => LeO.ite (LeO.bind (LeO.refl _) (fun _ => LeO.ite (LeO.bind (spec_l14Find.mono _ _ _ _) (fun _ => LeO.refl _)) (LeO.refl _))) (LeO.refl _))) (LeO.refl _))) (LeO.refl _))
set_option maxHeartbeats 8000000 in
set_option maxRecDepth 100000 in
theorem spec_l14Receive.calls (k : Nat) (d0 d1 d2 d3 d4 : Int) (P0 : Nat → Prop) (u : Value) (l : List S38) (x0 : Int) (x1 : ByteArray) (x2 x3 x4 r1_ r2_ r3_ r4_ r5_ : Int) (r6_ : List S38) (r7_ r8_ : Int) (w0 w : World) (hB : Below w0.heap.size w0 w) (ho : Kd.R k38 38 w w0.heap.size P0 u l) (h : spec_l14Receive.f k d0 d1 d2 d3 d4 l x0 x1 x2 x3 x4 = some (r1_, r2_, r3_, r4_, r5_, r6_, r7_, r8_)) :
  Calls Try.prog 41 #[.agg (zs6 d0 d1 d2 d3 d4 u), .agg (za5 x0 x1 x2 x3 x4)] w fun e w' => ∃ v5_ : Value, e = .returned (.tuple #[.agg (zs6 r1_ r2_ r3_ r4_ r5_ v5_), .agg (zo2 r7_ r8_)]) ∧ Kd.R k38 38 w' w0.heap.size (fun k_ => (P0 k_ ∨ w.heap.size ≤ k_)) v5_ r6_ ∧ Below w0.heap.size w0 w' ∧ Kept w w' (fun k_ => P0 k_) := by
 have hu34 := Try.underlying34
 have hu36 := Try.underlying36
 have hu38 := Try.underlying38
 have hu29 := Try.underlying29
 have hz36 := szero36
 have hz29 := szero29
 unfold spec_l14Receive.f at h
 obtain ⟨A, cu, rfl⟩ := zx ho
 obtain ⟨H0, HP⟩ := zD2 (Bag.mk1 hB ho) (show ∀ k_, (fun k => P0 k ∧ k < w.heap.size) k_ → P0 k_ ∨ w.heap.size ≤ k_ from fun _ hk => .inl hk.1)
 clear hB ho
 replace h := Option.bind_eq_some_iff.mp h
 obtain ⟨t0, a0, h⟩ := h
 obtain ⟨N0, HH⟩ := zD2 a0 h
 clear a0 h
 go_enter Try.func41, Try.ntmps41
 go_upto_region 1 with (first | (refine box_bag H0.out 2 (zs6 d0 d1 d2 d3 d4 (.slice A l.length cu)) 29 rfl ?_; intro sb w1 h_; have H1 := za h_; clear h_) | (refine box_bag H1.out 3 (za5 x0 x1 x2 x3 x4) 34 rfl ?_; intro xb w2 h_; have H2 := za h_; clear h_) | (refine box_bag H2.out 4 (zs6 0 0 0 0 0 (.slice none 0 0)) 29 rfl ?_; intro r1 w3 h_; have H3 := za h_; clear h_) | (refine box_bag H3.out 5 (zo2 0 0) 36 rfl ?_; intro r2 w4 h_; have H4 := za h_; clear h_))
 clear H0 H1 H2 H3 hz36 hz29
 obtain ⟨⟨kb0e, kb1e⟩, fb0e, fb1e⟩ := cells2 (H4.out.get 0 rfl)
 obtain ⟨⟨ka0e, ka1e, ka2e, ka3e, ka4e, ka5e⟩, fa0e, fa1e, fa2e, fa3e, fa4e, fa5e⟩ := cells6 (H4.out.get 1 rfl)
 obtain ⟨⟨kx0e, kx1e, kx2e, kx3e, kx4e⟩, fx0e, fx1e, fx2e, fx3e, fx4e⟩ := cells5 (H4.out.get 2 rfl)
 obtain ⟨⟨ks0e, ks1e, ks2e, ks3e, ks4e, ks5e⟩, fs0e, fs1e, fs2e, fs3e, fs4e, fs5e⟩ := cells6 (H4.out.get 3 rfl)
 cases t0 with
 | false =>
  have h := HH.out
  simp only [Bool.false_eq_true, if_false, Option.some.injEq, Prod.mk.injEq] at h
  obtain ⟨rfl, rfl, rfl, rfl, rfl, rfl, rfl, rfl⟩ := h
  clear HH
  go_upto_region 2 with (first | (go_at_call 56; with_reducible refine (spec_NameOK.calls k x1 false _ N0.out).mono ?_; rintro e w5 ⟨rfl, hd⟩; have H5 := za (H4.out.drawn hd); clear hd; obtain ⟨⟨kb0f, kb1f⟩, fb0f, fb1f⟩ := cells2 (H5.out.get 0 rfl); obtain ⟨⟨ka0f, ka1f, ka2f, ka3f, ka4f, ka5f⟩, fa0f, fa1f, fa2f, fa3f, fa4f, fa5f⟩ := cells6 (H5.out.get 1 rfl); obtain ⟨⟨kx0f, kx1f, kx2f, kx3f, kx4f⟩, fx0f, fx1f, fx2f, fx3f, fx4f⟩ := cells5 (H5.out.get 2 rfl); obtain ⟨⟨ks0f, ks1f, ks2f, ks3f, ks4f, ks5f⟩, fs0f, fs1f, fs2f, fs3f, fs4f, fs5f⟩ := cells6 (H5.out.get 3 rfl)))
  go_wp2_with (first | (refine store_bag H5.out 1 4 rfl ?_; intro wy h_; have HY := za h_; clear h_) | (refine store_bag HY.out 0 5 rfl ?_; intro wz h_; have HZ := za h_; clear h_))
  refine bodyPost_ret (results_cc rfl _ _ r1 r2 29 36 _ _ (0, 0) (0, 0) _ _ rfl (HZ.out.get 1 rfl) Try.underlying29 rfl zG83 rfl (HZ.out.get 0 rfl) Try.underlying36 rfl zG83) rfl ?_
  have HF := HZ.out.finV (P0 := P0) HP.out
  first | exact ⟨_, rfl, HF.1, HF.2.1, HF.2.2⟩ | exact ⟨rfl, _, HF.1, HF.2.1, HF.2.2⟩
 | true =>
  have h := HH.out
  rw [if_pos rfl] at h
  clear HH
  go_upto_region 3 with (first | (go_at_call 56; with_reducible refine (spec_NameOK.calls k x1 true _ N0.out).mono ?_; rintro e w5 ⟨rfl, hd⟩; have H5 := za (H4.out.drawn hd); clear hd; obtain ⟨⟨kb0f, kb1f⟩, fb0f, fb1f⟩ := cells2 (H5.out.get 0 rfl); obtain ⟨⟨ka0f, ka1f, ka2f, ka3f, ka4f, ka5f⟩, fa0f, fa1f, fa2f, fa3f, fa4f, fa5f⟩ := cells6 (H5.out.get 1 rfl); obtain ⟨⟨kx0f, kx1f, kx2f, kx3f, kx4f⟩, fx0f, fx1f, fx2f, fx3f, fx4f⟩ := cells5 (H5.out.get 2 rfl); obtain ⟨⟨ks0f, ks1f, ks2f, ks3f, ks4f, ks5f⟩, fs0f, fs1f, fs2f, fs3f, fs4f, fs5f⟩ := cells6 (H5.out.get 3 rfl)))
  clear H4
  clear kb0e fb0e kb1e fb1e ka0e fa0e ka1e fa1e ka2e fa2e ka3e fa3e ka4e fa4e ka5e fa5e kx0e fx0e kx1e fx1e kx2e fx2e kx3e fx3e kx4e fx4e ks0e fs0e ks1e fs1e ks2e fs2e ks3e fs3e ks4e fs4e ks5e fs5e
  replace h := Option.bind_eq_some_iff.mp h
  obtain ⟨t1, a1, h⟩ := h
  obtain ⟨N1, HH⟩ := zD2 a1 h
  clear a1 h
  cases t1 with
  | false =>
   have h := HH.out
   simp only [Bool.false_eq_true, if_false, Option.some.injEq, Prod.mk.injEq] at h
   obtain ⟨rfl, rfl, rfl, rfl, rfl, rfl, rfl, rfl⟩ := h
   clear HH
   go_upto_region 4 with (first | (go_at_call 44; with_reducible refine (spec_l01In.calls x2 1 1000000 false _ N1.out).mono ?_; rintro e w6 ⟨rfl, hd⟩; have H6 := za (H5.out.drawn hd); clear hd; obtain ⟨⟨kb0g, kb1g⟩, fb0g, fb1g⟩ := cells2 (H6.out.get 0 rfl); obtain ⟨⟨ka0g, ka1g, ka2g, ka3g, ka4g, ka5g⟩, fa0g, fa1g, fa2g, fa3g, fa4g, fa5g⟩ := cells6 (H6.out.get 1 rfl); obtain ⟨⟨kx0g, kx1g, kx2g, kx3g, kx4g⟩, fx0g, fx1g, fx2g, fx3g, fx4g⟩ := cells5 (H6.out.get 2 rfl); obtain ⟨⟨ks0g, ks1g, ks2g, ks3g, ks4g, ks5g⟩, fs0g, fs1g, fs2g, fs3g, fs4g, fs5g⟩ := cells6 (H6.out.get 3 rfl)))
   go_wp2_with (first | (refine store_bag H6.out 1 4 rfl ?_; intro wy h_; have HY := za h_; clear h_) | (refine store_bag HY.out 0 5 rfl ?_; intro wz h_; have HZ := za h_; clear h_))
   refine bodyPost_ret (results_cc rfl _ _ r1 r2 29 36 _ _ (0, 0) (0, 0) _ _ rfl (HZ.out.get 1 rfl) Try.underlying29 rfl zG83 rfl (HZ.out.get 0 rfl) Try.underlying36 rfl zG83) rfl ?_
   have HF := HZ.out.finV (P0 := P0) HP.out
   first | exact ⟨_, rfl, HF.1, HF.2.1, HF.2.2⟩ | exact ⟨rfl, _, HF.1, HF.2.1, HF.2.2⟩
  | true =>
   have h := HH.out
   rw [if_pos rfl] at h
   clear HH
   replace h := Option.bind_eq_some_iff.mp h
   obtain ⟨t2, a1, h⟩ := h
   obtain ⟨N2, HH⟩ := zD2 a1 h
   clear a1 h
   cases t2 with
   | false =>
    have h := HH.out
    simp only [Bool.false_eq_true, if_false, Option.some.injEq, Prod.mk.injEq] at h
    obtain ⟨rfl, rfl, rfl, rfl, rfl, rfl, rfl, rfl⟩ := h
    clear HH
    go_upto_region 4 with (first | (go_at_call 44; with_reducible refine (spec_l01In.calls x2 1 1000000 true _ N1.out).mono ?_; rintro e w6 ⟨rfl, hd⟩; have H6 := za (H5.out.drawn hd); clear hd; obtain ⟨⟨kb0g, kb1g⟩, fb0g, fb1g⟩ := cells2 (H6.out.get 0 rfl); obtain ⟨⟨ka0g, ka1g, ka2g, ka3g, ka4g, ka5g⟩, fa0g, fa1g, fa2g, fa3g, fa4g, fa5g⟩ := cells6 (H6.out.get 1 rfl); obtain ⟨⟨kx0g, kx1g, kx2g, kx3g, kx4g⟩, fx0g, fx1g, fx2g, fx3g, fx4g⟩ := cells5 (H6.out.get 2 rfl); obtain ⟨⟨ks0g, ks1g, ks2g, ks3g, ks4g, ks5g⟩, fs0g, fs1g, fs2g, fs3g, fs4g, fs5g⟩ := cells6 (H6.out.get 3 rfl)) | (go_at_call 44; with_reducible refine (spec_l01In.calls x3 1 100000 false _ N2.out).mono ?_; rintro e w7 ⟨rfl, hd⟩; have H7 := za (H6.out.drawn hd); clear hd; obtain ⟨⟨kb0h, kb1h⟩, fb0h, fb1h⟩ := cells2 (H7.out.get 0 rfl); obtain ⟨⟨ka0h, ka1h, ka2h, ka3h, ka4h, ka5h⟩, fa0h, fa1h, fa2h, fa3h, fa4h, fa5h⟩ := cells6 (H7.out.get 1 rfl); obtain ⟨⟨kx0h, kx1h, kx2h, kx3h, kx4h⟩, fx0h, fx1h, fx2h, fx3h, fx4h⟩ := cells5 (H7.out.get 2 rfl); obtain ⟨⟨ks0h, ks1h, ks2h, ks3h, ks4h, ks5h⟩, fs0h, fs1h, fs2h, fs3h, fs4h, fs5h⟩ := cells6 (H7.out.get 3 rfl)))
    go_wp2_with (first | (refine store_bag H7.out 1 4 rfl ?_; intro wy h_; have HY := za h_; clear h_) | (refine store_bag HY.out 0 5 rfl ?_; intro wz h_; have HZ := za h_; clear h_))
    refine bodyPost_ret (results_cc rfl _ _ r1 r2 29 36 _ _ (0, 0) (0, 0) _ _ rfl (HZ.out.get 1 rfl) Try.underlying29 rfl zG83 rfl (HZ.out.get 0 rfl) Try.underlying36 rfl zG83) rfl ?_
    have HF := HZ.out.finV (P0 := P0) HP.out
    first | exact ⟨_, rfl, HF.1, HF.2.1, HF.2.2⟩ | exact ⟨rfl, _, HF.1, HF.2.1, HF.2.2⟩
   | true =>
    have h := HH.out
    rw [if_pos rfl] at h
    clear HH
    replace h := Option.bind_eq_some_iff.mp h
    obtain ⟨t3, a1, h⟩ := h
    obtain ⟨N3, HH⟩ := zD2 a1 h
    clear a1 h
    cases t3 with
    | false =>
     have h := HH.out
     simp only [Bool.false_eq_true, if_false, Option.some.injEq, Prod.mk.injEq] at h
     obtain ⟨rfl, rfl, rfl, rfl, rfl, rfl, rfl, rfl⟩ := h
     clear HH
     go_upto_region 4 with (first | (go_at_call 44; with_reducible refine (spec_l01In.calls x2 1 1000000 true _ N1.out).mono ?_; rintro e w6 ⟨rfl, hd⟩; have H6 := za (H5.out.drawn hd); clear hd; obtain ⟨⟨kb0g, kb1g⟩, fb0g, fb1g⟩ := cells2 (H6.out.get 0 rfl); obtain ⟨⟨ka0g, ka1g, ka2g, ka3g, ka4g, ka5g⟩, fa0g, fa1g, fa2g, fa3g, fa4g, fa5g⟩ := cells6 (H6.out.get 1 rfl); obtain ⟨⟨kx0g, kx1g, kx2g, kx3g, kx4g⟩, fx0g, fx1g, fx2g, fx3g, fx4g⟩ := cells5 (H6.out.get 2 rfl); obtain ⟨⟨ks0g, ks1g, ks2g, ks3g, ks4g, ks5g⟩, fs0g, fs1g, fs2g, fs3g, fs4g, fs5g⟩ := cells6 (H6.out.get 3 rfl)) | (go_at_call 44; with_reducible refine (spec_l01In.calls x3 1 100000 true _ N2.out).mono ?_; rintro e w7 ⟨rfl, hd⟩; have H7 := za (H6.out.drawn hd); clear hd; obtain ⟨⟨kb0h, kb1h⟩, fb0h, fb1h⟩ := cells2 (H7.out.get 0 rfl); obtain ⟨⟨ka0h, ka1h, ka2h, ka3h, ka4h, ka5h⟩, fa0h, fa1h, fa2h, fa3h, fa4h, fa5h⟩ := cells6 (H7.out.get 1 rfl); obtain ⟨⟨kx0h, kx1h, kx2h, kx3h, kx4h⟩, fx0h, fx1h, fx2h, fx3h, fx4h⟩ := cells5 (H7.out.get 2 rfl); obtain ⟨⟨ks0h, ks1h, ks2h, ks3h, ks4h, ks5h⟩, fs0h, fs1h, fs2h, fs3h, fs4h, fs5h⟩ := cells6 (H7.out.get 3 rfl)) | (go_at_call 44; with_reducible refine (spec_l01In.calls x4 d0 100000 false _ N3.out).mono ?_; rintro e w8 ⟨rfl, hd⟩; have H8 := za (H7.out.drawn hd); clear hd; obtain ⟨⟨kb0i, kb1i⟩, fb0i, fb1i⟩ := cells2 (H8.out.get 0 rfl); obtain ⟨⟨ka0i, ka1i, ka2i, ka3i, ka4i, ka5i⟩, fa0i, fa1i, fa2i, fa3i, fa4i, fa5i⟩ := cells6 (H8.out.get 1 rfl); obtain ⟨⟨kx0i, kx1i, kx2i, kx3i, kx4i⟩, fx0i, fx1i, fx2i, fx3i, fx4i⟩ := cells5 (H8.out.get 2 rfl); obtain ⟨⟨ks0i, ks1i, ks2i, ks3i, ks4i, ks5i⟩, fs0i, fs1i, fs2i, fs3i, fs4i, fs5i⟩ := cells6 (H8.out.get 3 rfl)))
     go_wp2_with (first | (refine store_bag H8.out 1 4 rfl ?_; intro wy h_; have HY := za h_; clear h_) | (refine store_bag HY.out 0 5 rfl ?_; intro wz h_; have HZ := za h_; clear h_))
     refine bodyPost_ret (results_cc rfl _ _ r1 r2 29 36 _ _ (0, 0) (0, 0) _ _ rfl (HZ.out.get 1 rfl) Try.underlying29 rfl zG83 rfl (HZ.out.get 0 rfl) Try.underlying36 rfl zG83) rfl ?_
     have HF := HZ.out.finV (P0 := P0) HP.out
     first | exact ⟨_, rfl, HF.1, HF.2.1, HF.2.2⟩ | exact ⟨rfl, _, HF.1, HF.2.1, HF.2.2⟩
    | true =>
     have h := HH.out
     rw [if_pos rfl] at h
     clear HH
     replace h := Option.bind_eq_some_iff.mp h
     obtain ⟨ia, a1, h⟩ := h
     obtain ⟨N4, HH⟩ := zD2 a1 h
     clear a1 h
     go_upto_region 5 with (first | (go_at_call 44; with_reducible refine (spec_l01In.calls x2 1 1000000 true _ N1.out).mono ?_; rintro e w6 ⟨rfl, hd⟩; have H6 := za (H5.out.drawn hd); clear hd; obtain ⟨⟨kb0g, kb1g⟩, fb0g, fb1g⟩ := cells2 (H6.out.get 0 rfl); obtain ⟨⟨ka0g, ka1g, ka2g, ka3g, ka4g, ka5g⟩, fa0g, fa1g, fa2g, fa3g, fa4g, fa5g⟩ := cells6 (H6.out.get 1 rfl); obtain ⟨⟨kx0g, kx1g, kx2g, kx3g, kx4g⟩, fx0g, fx1g, fx2g, fx3g, fx4g⟩ := cells5 (H6.out.get 2 rfl); obtain ⟨⟨ks0g, ks1g, ks2g, ks3g, ks4g, ks5g⟩, fs0g, fs1g, fs2g, fs3g, fs4g, fs5g⟩ := cells6 (H6.out.get 3 rfl)) | (go_at_call 44; with_reducible refine (spec_l01In.calls x3 1 100000 true _ N2.out).mono ?_; rintro e w7 ⟨rfl, hd⟩; have H7 := za (H6.out.drawn hd); clear hd; obtain ⟨⟨kb0h, kb1h⟩, fb0h, fb1h⟩ := cells2 (H7.out.get 0 rfl); obtain ⟨⟨ka0h, ka1h, ka2h, ka3h, ka4h, ka5h⟩, fa0h, fa1h, fa2h, fa3h, fa4h, fa5h⟩ := cells6 (H7.out.get 1 rfl); obtain ⟨⟨kx0h, kx1h, kx2h, kx3h, kx4h⟩, fx0h, fx1h, fx2h, fx3h, fx4h⟩ := cells5 (H7.out.get 2 rfl); obtain ⟨⟨ks0h, ks1h, ks2h, ks3h, ks4h, ks5h⟩, fs0h, fs1h, fs2h, fs3h, fs4h, fs5h⟩ := cells6 (H7.out.get 3 rfl)) | (go_at_call 44; with_reducible refine (spec_l01In.calls x4 d0 100000 true _ N3.out).mono ?_; rintro e w8 ⟨rfl, hd⟩; have H8 := za (H7.out.drawn hd); clear hd; obtain ⟨⟨kb0i, kb1i⟩, fb0i, fb1i⟩ := cells2 (H8.out.get 0 rfl); obtain ⟨⟨ka0i, ka1i, ka2i, ka3i, ka4i, ka5i⟩, fa0i, fa1i, fa2i, fa3i, fa4i, fa5i⟩ := cells6 (H8.out.get 1 rfl); obtain ⟨⟨kx0i, kx1i, kx2i, kx3i, kx4i⟩, fx0i, fx1i, fx2i, fx3i, fx4i⟩ := cells5 (H8.out.get 2 rfl); obtain ⟨⟨ks0i, ks1i, ks2i, ks3i, ks4i, ks5i⟩, fs0i, fs1i, fs2i, fs3i, fs4i, fs5i⟩ := cells6 (H8.out.get 3 rfl)))
     clear H5 H6 H7
     clear kb0f fb0f kb1f fb1f ka0f fa0f ka1f fa1f ka2f fa2f ka3f fa3f ka4f fa4f ka5f fa5f kx0f fx0f kx1f fx1f kx2f fx2f kx3f fx3f kx4f fx4f ks0f fs0f ks1f fs1f ks2f fs2f ks3f fs3f ks4f fs4f ks5f fs5f
     clear kb0g fb0g kb1g fb1g ka0g fa0g ka1g fa1g ka2g fa2g ka3g fa3g ka4g fa4g ka5g fa5g kx0g fx0g kx1g fx1g kx2g fx2g kx3g fx3g kx4g fx4g ks0g fs0g ks1g fs1g ks2g fs2g ks3g fs3g ks4g fs4g ks5g fs5g
     clear kb0h fb0h kb1h fb1h ka0h fa0h ka1h fa1h ka2h fa2h ka3h fa3h ka4h fa4h ka5h fa5h kx0h fx0h kx1h fx1h kx2h fx2h kx3h fx3h kx4h fx4h ks0h fs0h ks1h fs1h ks2h fs2h ks3h fs3h ks4h fs4h ks5h fs5h
     have h := HH.out
     clear HH
     by_cases ka : ia ≥ 0
     ·rw [if_pos ka] at h
      simp only [Option.some.injEq, Prod.mk.injEq] at h
      obtain ⟨rfl, rfl, rfl, rfl, rfl, rfl, rfl, rfl⟩ := h
      have kab := decide_eq_true ka
      have kab' : decide (0 ≤ ia) = true := decide_eq_true ka
      clear ka
      go_upto_region 6 with (first | (go_at_call 45; with_reducible refine (spec_l14Find.calls k _ _ l x1 x2 ia _ (Kd.R_reads' H8.out.row).2.2 (Kd.R_reads' H8.out.row).2.1 N4.out).mono ?_; rintro e w9 ⟨rfl, hd⟩; have H9 := za (H8.out.drawn hd); clear hd; obtain ⟨⟨kb0j, kb1j⟩, fb0j, fb1j⟩ := cells2 (H9.out.get 0 rfl); obtain ⟨⟨ka0j, ka1j, ka2j, ka3j, ka4j, ka5j⟩, fa0j, fa1j, fa2j, fa3j, fa4j, fa5j⟩ := cells6 (H9.out.get 1 rfl); obtain ⟨⟨kx0j, kx1j, kx2j, kx3j, kx4j⟩, fx0j, fx1j, fx2j, fx3j, fx4j⟩ := cells5 (H9.out.get 2 rfl); obtain ⟨⟨ks0j, ks1j, ks2j, ks3j, ks4j, ks5j⟩, fs0j, fs1j, fs2j, fs3j, fs4j, fs5j⟩ := cells6 (H9.out.get 3 rfl)))
      go_wp2_with (first | (refine store_bag H9.out 1 4 rfl ?_; intro wy h_; have HY := za h_; clear h_) | (refine store_bag HY.out 0 5 rfl ?_; intro wz h_; have HZ := za h_; clear h_))
      refine bodyPost_ret (results_cc rfl _ _ r1 r2 29 36 _ _ (0, 0) (0, 0) _ _ rfl (HZ.out.get 1 rfl) Try.underlying29 rfl zG83 rfl (HZ.out.get 0 rfl) Try.underlying36 rfl zG83) rfl ?_
      have HF := HZ.out.finV (P0 := P0) HP.out
      first | exact ⟨_, rfl, HF.1, HF.2.1, HF.2.2⟩ | exact ⟨rfl, _, HF.1, HF.2.1, HF.2.2⟩
     rw [if_neg ka] at h
     have kab := decide_eq_false ka
     have kab' : decide (0 ≤ ia) = false := decide_eq_false ka
     clear ka
     go_upto_region 7 with (first | (go_at_call 45; with_reducible refine (spec_l14Find.calls k _ _ l x1 x2 ia _ (Kd.R_reads' H8.out.row).2.2 (Kd.R_reads' H8.out.row).2.1 N4.out).mono ?_; rintro e w9 ⟨rfl, hd⟩; have H9 := za (H8.out.drawn hd); clear hd; obtain ⟨⟨kb0j, kb1j⟩, fb0j, fb1j⟩ := cells2 (H9.out.get 0 rfl); obtain ⟨⟨ka0j, ka1j, ka2j, ka3j, ka4j, ka5j⟩, fa0j, fa1j, fa2j, fa3j, fa4j, fa5j⟩ := cells6 (H9.out.get 1 rfl); obtain ⟨⟨kx0j, kx1j, kx2j, kx3j, kx4j⟩, fx0j, fx1j, fx2j, fx3j, fx4j⟩ := cells5 (H9.out.get 2 rfl); obtain ⟨⟨ks0j, ks1j, ks2j, ks3j, ks4j, ks5j⟩, fs0j, fs1j, fs2j, fs3j, fs4j, fs5j⟩ := cells6 (H9.out.get 3 rfl)))
     clear H8
     clear kb0i fb0i kb1i fb1i ka0i fa0i ka1i fa1i ka2i fa2i ka3i fa3i ka4i fa4i ka5i fa5i kx0i fx0i kx1i fx1i kx2i fx2i kx3i fx3i kx4i fx4i ks0i fs0i ks1i fs1i ks2i fs2i ks3i fs3i ks4i fs4i ks5i fs5i
     by_cases kl : (l.length : Int) = 60
     ·rw [if_pos kl] at h
      simp only [Option.some.injEq, Prod.mk.injEq] at h
      obtain ⟨rfl, rfl, rfl, rfl, rfl, rfl, rfl, rfl⟩ := h
      have klb := beq_iff_eq.mpr kl
      clear kl
      go_wp2_with (first | (refine store_bag H9.out 1 4 rfl ?_; intro wy h_; have HY := za h_; clear h_) | (refine store_bag HY.out 0 5 rfl ?_; intro wz h_; have HZ := za h_; clear h_))
      refine bodyPost_ret (results_cc rfl _ _ r1 r2 29 36 _ _ (0, 0) (0, 0) _ _ rfl (HZ.out.get 1 rfl) Try.underlying29 rfl zG83 rfl (HZ.out.get 0 rfl) Try.underlying36 rfl zG83) rfl ?_
      have HF := HZ.out.finV (P0 := P0) HP.out
      first | exact ⟨_, rfl, HF.1, HF.2.1, HF.2.2⟩ | exact ⟨rfl, _, HF.1, HF.2.1, HF.2.2⟩
     rw [if_neg kl] at h
     have klb := beq_eq_false_iff_ne.mpr kl
     clear kl
     by_cases km : l.length < 2932031007402
     rotate_left
     ·rw [if_neg km] at h
      cases h
     rw [if_pos km] at h
     simp only [Option.some.injEq, Prod.mk.injEq] at h
     obtain ⟨rfl, rfl, rfl, rfl, rfl, rfl, rfl, rfl⟩ := h
     have LM := za km
     clear km
     go_upto_region 10 with (first | ((with_reducible refine gate_builtin (b := .append) (xs := #[.tmp 49, .tmp 59]) rfl ?_); at_builtin; refine Kd.R_append k38 (w0 := w0) w0.heap.size rfl (.tmp 49) (.tmp 59) 27 38 (.agg #[(.string ⟨#[]⟩), (.int .i64 0), (.int .i64 0), (.int .i64 0), (.bool false)]) 48 rfl Try.underlying27 info38 rfl zG84 (by omega) (.slice A l.length cu) l (⟨x1, x2, x3, x4, false⟩ : S38) [.string x1, .int .i64 x2, .int .i64 x3, .int .i64 x4, .bool false] (fun k_ => (P0 k_ ∧ k_ < w.heap.size) ∨ w9.heap.size ≤ k_) (fun _ => False) rfl rfl (k38_mkM _ _ _ (⟨x1, x2, x3, x4, false⟩ : S38)) (fun _ hk => hk.elim) (fun _ hk => .inr hk) (zs H9.out.row (fun _ hk => .inl hk)) H9.out.below H9.out.below.size (by have := LM.out; omega) ?_; intro v10 w10 hr10 hb10 hg10 hat10; obtain ⟨A10, c10, rfl⟩ := zx hr10; have H10 := za (H9.out.appended hr10 hb10 hg10); clear hr10 hb10 hg10 hat10; rw [show (l ++ [(⟨x1, x2, x3, x4, false⟩ : S38)]).length = l.length + 1 from by simp] at H10; obtain ⟨⟨kb0k, kb1k⟩, fb0k, fb1k⟩ := cells2 (H10.out.get 0 rfl); obtain ⟨⟨ka0k, ka1k, ka2k, ka3k, ka4k, ka5k⟩, fa0k, fa1k, fa2k, fa3k, fa4k, fa5k⟩ := cells6 (H10.out.get 1 rfl); obtain ⟨⟨kx0k, kx1k, kx2k, kx3k, kx4k⟩, fx0k, fx1k, fx2k, fx3k, fx4k⟩ := cells5 (H10.out.get 2 rfl); obtain ⟨⟨ks0k, ks1k, ks2k, ks3k, ks4k, ks5k⟩, fs0k, fs1k, fs2k, fs3k, fs4k, fs5k⟩ := cells6 (H10.out.get 3 rfl)))
     have H11 : Aside0 (Bag k38 38 w0 w (fun k => ((P0 k ∧ k < w.heap.size) ∨ w9.heap.size ≤ k) ∧ k < w10.heap.size) w.heap.size (.slice A10 (l.length + 1) c10) (l ++ [(⟨x1, x2, x3, x4, false⟩ : S38)]) [(r2, (zo2 0 0), 36), (r1, (zs6 0 0 0 0 0 (.slice none 0 0)), 29), (xb, (za5 x0 x1 x2 x3 x4), 34), (sb, (zs6 d0 d1 d2 d3 d4 (.slice A10 (l.length + 1) c10)), 29)] (w10.setCell ⟨sb, 5, none⟩ (.slice A10 (l.length + 1) c10))) := ⟨H10.out.put 3 5 (.slice A10 (l.length + 1) c10) rfl rfl⟩
     generalize (w10.setCell ⟨sb, 5, none⟩ (.slice A10 (l.length + 1) c10)) = w11 at H11 ⊢
     clear kb0j fb0j kb1j fb1j ka0j fa0j ka1j fa1j ka2j fa2j ka3j fa3j ka4j fa4j ka5j fa5j kx0j fx0j kx1j fx1j kx2j fx2j kx3j fx3j kx4j fx4j ks0j fs0j ks1j fs1j ks2j fs2j ks3j fs3j ks4j fs4j ks5j fs5j
     clear kb0k fb0k kb1k fb1k ka0k fa0k ka1k fa1k ka2k fa2k ka3k fa3k ka4k fa4k ka5k fa5k kx0k fx0k kx1k fx1k kx2k fx2k kx3k fx3k kx4k fx4k ks0k fs0k ks1k fs1k ks2k fs2k ks3k fs3k ks4k fs4k ks5k fs5k
     obtain ⟨⟨kb0l, kb1l⟩, fb0l, fb1l⟩ := cells2 (H11.out.get 0 rfl)
     obtain ⟨⟨ka0l, ka1l, ka2l, ka3l, ka4l, ka5l⟩, fa0l, fa1l, fa2l, fa3l, fa4l, fa5l⟩ := cells6 (H11.out.get 1 rfl)
     obtain ⟨⟨kx0l, kx1l, kx2l, kx3l, kx4l⟩, fx0l, fx1l, fx2l, fx3l, fx4l⟩ := cells5 (H11.out.get 2 rfl)
     obtain ⟨⟨ks0l, ks1l, ks2l, ks3l, ks4l, ks5l⟩, fs0l, fs1l, fs2l, fs3l, fs4l, fs5l⟩ := cells6 (H11.out.get 3 rfl)
     go_upto_region 11 with (fail)
     have H12 : Aside0 (Bag k38 38 w0 w (fun k => ((P0 k ∧ k < w.heap.size) ∨ w9.heap.size ≤ k) ∧ k < w10.heap.size) w.heap.size (.slice A10 (l.length + 1) c10) (l ++ [(⟨x1, x2, x3, x4, false⟩ : S38)]) [(r2, (zo2 0 0), 36), (r1, (zs6 0 0 0 0 0 (.slice none 0 0)), 29), (xb, (za5 x0 x1 x2 x3 x4), 34), (sb, (zs6 d0 (wrap64 (d1 + x3)) d2 d3 d4 (.slice A10 (l.length + 1) c10)), 29)] (w11.setCell ⟨sb, 1, none⟩ (.int .i64 (wrap64 (d1 + x3))))) := ⟨H11.out.put 3 1 (.int .i64 (wrap64 (d1 + x3))) rfl rfl⟩
     generalize (w11.setCell ⟨sb, 1, none⟩ (.int .i64 (wrap64 (d1 + x3)))) = w12 at H12 ⊢
     clear kb0l fb0l kb1l fb1l ka0l fa0l ka1l fa1l ka2l fa2l ka3l fa3l ka4l fa4l ka5l fa5l kx0l fx0l kx1l fx1l kx2l fx2l kx3l fx3l kx4l fx4l ks0l fs0l ks1l fs1l ks2l fs2l ks3l fs3l ks4l fs4l ks5l fs5l
     obtain ⟨⟨kb0m, kb1m⟩, fb0m, fb1m⟩ := cells2 (H12.out.get 0 rfl)
     obtain ⟨⟨ka0m, ka1m, ka2m, ka3m, ka4m, ka5m⟩, fa0m, fa1m, fa2m, fa3m, fa4m, fa5m⟩ := cells6 (H12.out.get 1 rfl)
     obtain ⟨⟨kx0m, kx1m, kx2m, kx3m, kx4m⟩, fx0m, fx1m, fx2m, fx3m, fx4m⟩ := cells5 (H12.out.get 2 rfl)
     obtain ⟨⟨ks0m, ks1m, ks2m, ks3m, ks4m, ks5m⟩, fs0m, fs1m, fs2m, fs3m, fs4m, fs5m⟩ := cells6 (H12.out.get 3 rfl)
     have n_sb_r1 : ¬ sb = r1 := H12.out.ne 3 1 rfl rfl zG84
     have n_sb_r2 : ¬ sb = r2 := H12.out.ne 3 0 rfl rfl zG84
     have n_xb_r1 : ¬ xb = r1 := H12.out.ne 2 1 rfl rfl zG84
     have n_xb_r2 : ¬ xb = r2 := H12.out.ne 2 0 rfl rfl zG84
     have n_r2_r1 : ¬ r2 = r1 := H12.out.ne 0 1 rfl rfl zG84
     try go_wp2
     go_region
     have HZ := za ((H12.out.puts (i := 1) [.int .i64 d0, .int .i64 (wrap64 (d1 + x3)), .int .i64 d2, .int .i64 d3, .int .i64 d4, .slice A10 (l.length + 1) c10] 0 rfl).puts (i := 0) [.int .i64 0, .int .i64 x3] 0 rfl).drew
     go_wp2
     refine bodyPost_ret (results_cc rfl _ _ r1 r2 29 36 _ _ (0, 0) (0, 0) _ _ rfl (HZ.out.get 1 rfl) Try.underlying29 rfl zG83 rfl (HZ.out.get 0 rfl) Try.underlying36 rfl zG83) rfl ?_
     have HF := HZ.out.finV (P0 := P0) (fun k_ hk => hk.1.elim (HP.out k_) (fun hh => .inr (Nat.le_trans H9.out.kept.1 hh)))
     first | exact ⟨_, rfl, HF.1, HF.2.1, HF.2.2⟩ | exact ⟨rfl, _, HF.1, HF.2.1, HF.2.2⟩
end Go.Proofs.Ytnkceaibkfbeaaa.E
