-- squeezed
-- made by pp.py (wip/tools) out of the translation; Lean checks it
import Derived.Test.YtnkceaibkfbeaaaF0
import Derived.Test.YtnkceaibkfbeaaaF1
namespace Go.Proofs.Ytnkceaibkfbeaaa.F
open Go.RowKit Go.Proofs.YtnkceaibkfbeaaaW.PrintWords Go.Proofs.YtnkceaibkfbeaaaW.PrintLast Go.Proofs.YtnkceaibkfbeaaaW.PrintMore
attribute [local go_sem] max2_int min2_int max_two min_two max_three min_three max_four min_four   -- for this text's walks alone
set_option linter.unusedVariables false
set_option linter.unusedSimpArgs false


/-! ### spec_l00Src_stockActs: function 22 -/
mutual
def spec_l00Src_stockActs.l0 : Nat → List (S34) → Int → Int → List Int → Int → Int → Option ((List (S34)) × Int × Int)
 | 0, _, _, _, _, _, _ => none
 | k + 1, x3, x4, x5, x1000, x1001, x1002 => if x5 > 0 then ((spec_l00Src_pick.f x1000 x1001 x1002 (([(⟨#[109, 105, 108, 107]⟩ : ByteArray), (⟨#[98, 114, 111, 116]⟩ : ByteArray)] : List ByteArray))).bind fun bt130 => ((spec_l00Src_next.f x1000 bt130.2.1 bt130.2.2 6).bind fun bt133 => ((spec_l00Src_next.f x1000 bt133.2.1 bt133.2.2 20).bind fun bt136 => ((spec_l00Src_next.f x1000 bt136.2.1 bt136.2.2 12).bind fun bt139 => ((spec_l00Src_next.f x1000 bt139.2.1 bt139.2.2 11).bind fun bt143 => (if bt143.1 = 0 then (spec_l00Src_stockActs.j1 k x3 x4 x5 bt143.1 (bt143.1 == 0) x1000 bt143.2.1 bt143.2.2 1 bt130.1 (wrap64 (1 + bt133.1)) (wrap64 (1 + bt136.1)) (wrap64 (x4 + bt139.1))) else (if bt143.1 = 1 then (spec_l00Src_stockActs.j1 k x3 x4 x5 bt143.1 (bt143.1 == 1) x1000 bt143.2.1 bt143.2.2 1 bt130.1 (wrap64 (1 + bt133.1)) (wrap64 (1 + bt136.1)) (wrap64 (x4 + bt139.1))) else (if bt143.1 = 2 then (spec_l00Src_stockActs.j1 k x3 x4 x5 bt143.1 (bt143.1 == 2) x1000 bt143.2.1 bt143.2.2 1 bt130.1 (wrap64 (1 + bt133.1)) (wrap64 (1 + bt136.1)) (wrap64 (x4 + bt139.1))) else (spec_l00Src_stockActs.j1 k x3 x4 x5 bt143.1 (bt143.1 == 3) x1000 bt143.2.1 bt143.2.2 1 bt130.1 (wrap64 (1 + bt133.1)) (wrap64 (1 + bt136.1)) (wrap64 (x4 + bt139.1))))))))))) else (some (x3, x1001, x1002))
def spec_l00Src_stockActs.j1 : Nat → List (S34) → Int → Int → Int → Bool → List Int → Int → Int → Int → ByteArray → Int → Int → Int → Option ((List (S34)) × Int × Int)
 | 0, _, _, _, _, _, _, _, _, _, _, _, _, _ => none
 | k + 1, x3, x4, x5, x32, x33, x1000, x1001, x1002, x143000, x143001, x143002, x143003, x143004 => if x33 = true then ((spec_l00Src_next.f x1000 x1001 x1002 16).bind fun bt146 => (if x3.length < 2932031007402 then (spec_l00Src_stockActs.l0 k (x3 ++ [(⟨2, x143001, 0, wrap64 (1 + bt146.1), 0⟩ : S34)]) x4 (wrap64 (x5 - 1)) x1000 bt146.2.1 bt146.2.2) else (none))) else (if x32 = 4 then ((spec_l00Src_next.f x1000 x1001 x1002 5).bind fun bt152 => (if x3.length < 2932031007402 then (spec_l00Src_stockActs.l0 k (x3 ++ [(⟨3, (⟨#[]⟩ : ByteArray), 0, wrap64 (x4 + bt152.1), 0⟩ : S34)]) (wrap64 (x4 + bt152.1)) (wrap64 (x5 - 1)) x1000 bt152.2.1 bt152.2.2) else (none))) else (if x32 = 5 then (spec_l00Src_stockActs.j2 k x3 x4 x5 x32 (x32 == 5) x1000 x1001 x1002 x143000 x143001 x143002 x143003 x143004) else (spec_l00Src_stockActs.j2 k x3 x4 x5 x32 (x32 == 6) x1000 x1001 x1002 x143000 x143001 x143002 x143003 x143004)))
def spec_l00Src_stockActs.j2 : Nat → List (S34) → Int → Int → Int → Bool → List Int → Int → Int → Int → ByteArray → Int → Int → Int → Option ((List (S34)) × Int × Int)
 | 0, _, _, _, _, _, _, _, _, _, _, _, _, _ => none
 | k + 1, x3, x4, x5, x32, x52, x1000, x1001, x1002, x143000, x143001, x143002, x143003, x143004 => if x52 = true then ((spec_l00Src_next.f x1000 x1001 x1002 4).bind fun bt158 => ((spec_l00Src_next.f x1000 bt158.2.1 bt158.2.2 14).bind fun bt161 => (if x3.length < 2932031007402 then (spec_l00Src_stockActs.l0 k (x3 ++ [(⟨wrap64 (4 + bt158.1), x143001, x143002, bt161.1, x143004⟩ : S34)]) x4 (wrap64 (x5 - 1)) x1000 bt161.2.1 bt161.2.2) else (none)))) else (if x32 = 7 then ((spec_l00Src_next.f x1000 x1001 x1002 10).bind fun bt167 => ((spec_l00Src_pick.f x1000 bt167.2.1 bt167.2.2 (([(⟨#[]⟩ : ByteArray), (⟨#[57]⟩ : ByteArray), (⟨#[109, 105, 108, 107]⟩ : ByteArray)] : List ByteArray))).bind fun bt173 => ((some (([0, 1, 1000000, 1000001] : List Int) : List Int)).bind fun y176 => ((spec_l00Src_next.f x1000 bt173.2.1 bt173.2.2 4).bind fun bt179 => (if 0 ≤ bt179.1 then (if bt179.1 < (y176.length : Int) then ((some (([0, 1, 100000, 100001, (-1), 100000] : List Int) : List Int)).bind fun y183 => ((spec_l00Src_next.f x1000 bt179.2.1 bt179.2.2 6).bind fun bt186 => (if 0 ≤ bt186.1 then (if bt186.1 < (y183.length : Int) then ((some (([(-1), 100000, 100001, x4] : List Int) : List Int)).bind fun y190 => ((spec_l00Src_next.f x1000 bt186.2.1 bt186.2.2 4).bind fun bt193 => (if 0 ≤ bt193.1 then (if bt193.1 < (y190.length : Int) then (if x3.length < 2932031007402 then (spec_l00Src_stockActs.l0 k (x3 ++ [(⟨wrap64 (bt167.1 - 1), bt173.1, rd y176 bt179.1, rd y183 bt186.1, rd y190 bt193.1⟩ : S34)]) x4 (wrap64 (x5 - 1)) x1000 bt193.2.1 bt193.2.2) else (none)) else (none)) else (none)))) else (none)) else (none)))) else (none)) else (none)))))) else (if x3.length < 2932031007402 then (spec_l00Src_stockActs.l0 k (x3 ++ [(⟨x143000, x143001, x143002, x143003, x143004⟩ : S34)]) x4 (wrap64 (x5 - 1)) x1000 x1001 x1002) else (none)))
end
def spec_l00Src_stockActs.f (k : Nat) (s0_0 : List Int) (s0_1 : Int) (s0_2 : Int) : Option ((List (S34)) × Int × Int) := (spec_l00Src_size.f s0_0 s0_1 s0_2 26).bind fun bt121 => ((spec_l00Src_next.f s0_0 bt121.2.1 bt121.2.2 (wrap64 (bt121.1 + 3))).bind fun bt124 => (spec_l00Src_stockActs.l0 k (([] : List (S34))) 0 bt124.1 s0_0 bt124.2.1 bt124.2.2))
theorem spec_l00Src_stockActs.mono_l : ∀ k, (∀ y0 y1 y2 y3 y4 y5, LeO (spec_l00Src_stockActs.l0 k y0 y1 y2 y3 y4 y5) (spec_l00Src_stockActs.l0 (k + 1) y0 y1 y2 y3 y4 y5)) ∧ (∀ y0 y1 y2 y3 y4 y5 y6 y7 y8 y9 y10 y11 y12, LeO (spec_l00Src_stockActs.j1 k y0 y1 y2 y3 y4 y5 y6 y7 y8 y9 y10 y11 y12) (spec_l00Src_stockActs.j1 (k + 1) y0 y1 y2 y3 y4 y5 y6 y7 y8 y9 y10 y11 y12)) ∧ (∀ y0 y1 y2 y3 y4 y5 y6 y7 y8 y9 y10 y11 y12, LeO (spec_l00Src_stockActs.j2 k y0 y1 y2 y3 y4 y5 y6 y7 y8 y9 y10 y11 y12) (spec_l00Src_stockActs.j2 (k + 1) y0 y1 y2 y3 y4 y5 y6 y7 y8 y9 y10 y11 y12))
 | 0 => ⟨fun _ _ _ _ _ _ r h => by simp [spec_l00Src_stockActs.l0] at h, fun _ _ _ _ _ _ _ _ _ _ _ _ _ r h => by simp [spec_l00Src_stockActs.j1] at h, fun _ _ _ _ _ _ _ _ _ _ _ _ _ r h => by simp [spec_l00Src_stockActs.j2] at h⟩
 | k + 1 => by
  obtain ⟨ih0, ih1, ih2⟩ := spec_l00Src_stockActs.mono_l k
  refine ⟨?_, ?_, ?_⟩
  ·intro y0 y1 y2 y3 y4 y5
   unfold spec_l00Src_stockActs.l0
   repeat' first
   | (with_reducible exact ih0 _ _ _ _ _ _)
   | (with_reducible exact ih1 _ _ _ _ _ _ _ _ _ _ _ _ _)
   | (with_reducible exact ih2 _ _ _ _ _ _ _ _ _ _ _ _ _)
   | (with_reducible exact LeO.refl _)
   | (with_reducible exact LeO.none _)
   | (with_reducible refine LeO.ite ?_ ?_)
   | (with_reducible refine LeO.bind ?_ (fun _ => ?_))
   | exact ih0 _ _ _ _ _ _
   | exact ih1 _ _ _ _ _ _ _ _ _ _ _ _ _
   | exact ih2 _ _ _ _ _ _ _ _ _ _ _ _ _
   | exact LeO.none _
   | refine LeO.ite ?_ ?_
   | refine LeO.bind ?_ (fun _ => ?_)
  ·intro y0 y1 y2 y3 y4 y5 y6 y7 y8 y9 y10 y11 y12
   unfold spec_l00Src_stockActs.j1
   repeat' first
   | (with_reducible exact ih0 _ _ _ _ _ _)
   | (with_reducible exact ih1 _ _ _ _ _ _ _ _ _ _ _ _ _)
   | (with_reducible exact ih2 _ _ _ _ _ _ _ _ _ _ _ _ _)
   | (with_reducible exact LeO.refl _)
   | (with_reducible exact LeO.none _)
   | (with_reducible refine LeO.ite ?_ ?_)
   | (with_reducible refine LeO.bind ?_ (fun _ => ?_))
   | exact ih0 _ _ _ _ _ _
   | exact ih1 _ _ _ _ _ _ _ _ _ _ _ _ _
   | exact ih2 _ _ _ _ _ _ _ _ _ _ _ _ _
   | exact LeO.none _
   | refine LeO.ite ?_ ?_
   | refine LeO.bind ?_ (fun _ => ?_)
  ·intro y0 y1 y2 y3 y4 y5 y6 y7 y8 y9 y10 y11 y12
   unfold spec_l00Src_stockActs.j2
   repeat' first
   | (with_reducible exact ih0 _ _ _ _ _ _)
   | (with_reducible exact ih1 _ _ _ _ _ _ _ _ _ _ _ _ _)
   | (with_reducible exact ih2 _ _ _ _ _ _ _ _ _ _ _ _ _)
   | (with_reducible exact LeO.refl _)
   | (with_reducible exact LeO.none _)
   | (with_reducible refine LeO.ite ?_ ?_)
   | (with_reducible refine LeO.bind ?_ (fun _ => ?_))
   | exact ih0 _ _ _ _ _ _
   | exact ih1 _ _ _ _ _ _ _ _ _ _ _ _ _
   | exact ih2 _ _ _ _ _ _ _ _ _ _ _ _ _
   | exact LeO.none _
   | refine LeO.ite ?_ ?_
   | refine LeO.bind ?_ (fun _ => ?_)
theorem spec_l00Src_stockActs.mono : ∀ a0 a1 a2 k, LeO (spec_l00Src_stockActs.f k a0 a1 a2) (spec_l00Src_stockActs.f (k + 1) a0 a1 a2) := by
 intro a0 a1 a2 k
 obtain ⟨ih0, ih1, ih2⟩ := spec_l00Src_stockActs.mono_l k
 unfold spec_l00Src_stockActs.f
 repeat' first
   | (with_reducible exact ih0 _ _ _ _ _ _)
   | (with_reducible exact ih1 _ _ _ _ _ _ _ _ _ _ _ _ _)
   | (with_reducible exact ih2 _ _ _ _ _ _ _ _ _ _ _ _ _)
   | (with_reducible exact LeO.refl _)
   | (with_reducible exact LeO.none _)
   | (with_reducible refine LeO.ite ?_ ?_)
   | (with_reducible refine LeO.bind ?_ (fun _ => ?_))
   | exact ih0 _ _ _ _ _ _
   | exact ih1 _ _ _ _ _ _ _ _ _ _ _ _ _
   | exact ih2 _ _ _ _ _ _ _ _ _ _ _ _ _
   | exact LeO.none _
   | refine LeO.ite ?_ ?_
   | refine LeO.bind ?_ (fun _ => ?_)
def spec_l00Src_stockActs.T21 : Bool × List (List Nat × List Nat) := (true, [([], []), ([0], [0]), ([1], [1]), ([], []), ([], []), ([3, 4, 1], [3, 4]), ([], []), ([], []), ([7, 5], [7]), ([6, 8], [6, 8]), ([9], [9]), ([], []), ([], []), ([12, 8], [12]), ([11, 13], [11, 13]), ([14], [14]), ([], []), ([16], [16]), ([], []), ([18, 13], [18]), ([17, 19], [17, 19]), ([20], [20]), ([2, 5, 10, 15, 21], [2, 5, 10, 15, 21]), ([22, 19, 0, 1, 2, 3, 4, 5, 6, 7, 8, 9, 10, 11, 12, 13, 14, 15, 16, 17, 18, 19, 20, 21, 22], [22])])
def spec_l00Src_stockActs.B21 : List Nat := [0, 1, 3, 0, 0, 27, 0, 0, 187, 507, 1019, 0, 0, 4539, 14779, 31163, 0, 65536, 0, 274875, 995771, 2044347, 4194303, 8388607]
theorem spec_l00Src_stockActs.tab21 : rtab .any (opsOf Try.f22 21) = spec_l00Src_stockActs.T21 := by kernel_rfl
theorem spec_l00Src_stockActs.bits21 : waitsOk spec_l00Src_stockActs.T21.2 spec_l00Src_stockActs.B21 = true := by kernel_rfl
set_option maxHeartbeats 64000000 in
set_option maxRecDepth 100000 in
theorem spec_l00Src_stockActs.calls (k : Nat) (g : Nat) (s0_0 : List Int) (s0_1 : Int) (s0_2 : Int) (r1 : List (S34)) (r2 : Int) (r3 : Int) (w0 w : World) (hI : IsS67 w0 w g s0_0 s0_1 s0_2) (hB : Below w0.heap.size w0 w) (h : spec_l00Src_stockActs.f k s0_0 s0_1 s0_2 = some (r1, r2, r3)) :
  Calls Try.prog 22 #[.pointer (some ⟨g, 0, none⟩)] w fun e w' => ∃ v0_ : Value, e = .returned (v0_) ∧ Kd.R k34 34 w' w.heap.size (fun _ => True) v0_ r1 ∧ IsS67 w0 w' g s0_0 r2 r3 ∧ Below w0.heap.size w0 w' ∧ KeepBut w w' g none := by
 have hu34 := Try.underlying34
 obtain ⟨HI0, HK, HL, HW0, HB⟩ := zD5 hI (zau w g none) hB.size hB.size hB
 clear hI hB
 have H : ((spec_l00Src_size.f s0_0 s0_1 s0_2 26).bind fun bt121 => ((spec_l00Src_next.f s0_0 bt121.2.1 bt121.2.2 (wrap64 (bt121.1 + 3))).bind fun bt124 => (spec_l00Src_stockActs.l0 k (([] : List (S34))) 0 bt124.1 s0_0 bt124.2.1 bt124.2.2))) = some (r1, r2, r3) := h
 clear h
 obtain ⟨y118, hy118⟩ : ∃ y_ : List (S34), y_ = (([] : List (S34))) := ⟨_, rfl⟩
 replace H : ((spec_l00Src_size.f s0_0 s0_1 s0_2 26).bind fun bt121 => ((spec_l00Src_next.f s0_0 bt121.2.1 bt121.2.2 (wrap64 (bt121.1 + 3))).bind fun bt124 => (spec_l00Src_stockActs.l0 k y118 0 bt124.1 s0_0 bt124.2.1 bt124.2.2))) = some (r1, r2, r3) := by first | (rw [hy118]; with_reducible exact H) | (have H2_ := (Option.bind_some _ _).symm.trans H; rw [hy118]; with_reducible exact H2_) | (have H2_ := (Option.bind_some _ _).symm.trans H; with_reducible exact H2_) | with_reducible exact H | (rw [hy118]; exact H) | exact H
 have Ny118 := za hy118
 clear hy118
 replace H := Option.bind_eq_some_iff.mp H
 obtain ⟨⟨t121, t122, t123⟩, A20, H⟩ := H
 replace H : ((spec_l00Src_next.f s0_0 t122 t123 (wrap64 (t121 + 3))).bind fun bt124 => (spec_l00Src_stockActs.l0 k y118 0 bt124.1 s0_0 bt124.2.1 bt124.2.2)) = some (r1, r2, r3) := H
 have A2 := za A20
 clear A20
 replace H := Option.bind_eq_some_iff.mp H
 obtain ⟨⟨t124, t125, t126⟩, A30, H⟩ := H
 replace H : (spec_l00Src_stockActs.l0 k y118 0 t124 s0_0 t125 t126) = some (r1, r2, r3) := H
 have A3 := za A30
 clear A30
 have H' := za H
 clear H
 go_enter Try.func22, Try.ntmps22
 go_wp2_with (first | ((with_reducible refine gate_dst (N := 7) rfl ?_); refine Kd.R_lit k34 _ 34 ?hg (N := 7) ?hd (xs := ([] : List (S34))) (inner := []) (ok := fun _ => True) (okp := fun _ => True) ?hr ?hp (fun _ hk => hk) trivial (Below.refl _ _) (Nat.le_refl _) (by simp) ?_; (case hd => rfl); (case hg => rfl); (case hr => exact zH81); (case hp => exact (Reps.none _ _)); intro v119 w4 ho5 hb hg_ hnew_; clear hg_ hnew_; (first | rw [← Ny118.out] at ho5 | (simp only [Int.reduceToNat] at ho5; rw [← Ny118.out] at ho5)); have n_ := zA_ (za (zah ho5 (keep_size (w := w) (g := g) (row := none) zG57))) (zA_ (za (IsS67.below zK119 hb)) (zA_ (za (zaa zG57 (zak hb g none) (.inl rfl))) (za (zu zK128 hb)))); clear HI0 HK HB; obtain ⟨HO120, HI0, HK, HB⟩ := n_; clear hb ho5) | ((with_reducible refine gate_callee (f := 35) rfl ?_); refine goesL_ (some 10) rfl rfl Try.func35 zG69 rfl #[.pointer (some ⟨g, 0, none⟩), .int .i64 26] rfl zG56 ?_; (with_reducible refine (spec_l00Src_size.calls g s0_0 s0_1 s0_2 26 t121 t122 t123 w0 _ ?side1 ?side2 A2.out).mono ?_); (case side1 => exact zH32); (case side2 => exact zH44); rintro e w6 ⟨rfl, hi, hb, hk⟩; refine ⟨_, rfl, ?_⟩; have n_ := zA_ (za (zn (zw (IsS67.apart (show IsS67 w0 _ g s0_0 s0_1 s0_2 from by repeat (first | (with_reducible first | exact HI0.out | apply IsS67.alloc | apply IsS67.drewN | apply IsS67.drew | apply IsS67.set_1 | apply IsS67.set_2) | exact HI0.out)) (by (with_reducible repeat (first | apply zj | apply zk | apply zl)); exact HO120.out) zG70) hk (fun _ h => h.2)) (fun _ h => h.1))) (zA_ (za (zaa zG57 hk (.inl rfl))) (zA_ (za (hb)) (za (hi)))); clear HO120 HK HB HI0; obtain ⟨HO120, HK, HB, HI0⟩ := n_; (try clear hb); (try clear hk); (try clear hi)) | ((with_reducible refine gate_callee (f := 34) rfl ?_); refine goesL_ (some 12) rfl rfl Try.func34 zG69 rfl #[.pointer (some ⟨g, 0, none⟩), .int .i64 (wrap64 (t121 + 3))] rfl zG56 ?_; (with_reducible refine (spec_l00Src_next.calls g s0_0 t122 t123 (wrap64 (t121 + 3)) t124 t125 t126 w0 _ ?side1 ?side2 A3.out).mono ?_); (case side1 => exact zH32); (case side2 => exact zH44); rintro e w7 ⟨rfl, hi, hb, hk⟩; refine ⟨_, rfl, ?_⟩; have n_ := zA_ (za (zn (zw (IsS67.apart (show IsS67 w0 _ g s0_0 t122 t123 from by repeat (first | (with_reducible first | exact HI0.out | apply IsS67.alloc | apply IsS67.drewN | apply IsS67.drew | apply IsS67.set_1 | apply IsS67.set_2) | exact HI0.out)) (by (with_reducible repeat (first | apply zj | apply zk | apply zl)); exact HO120.out) zG70) hk (fun _ h => h.2)) (fun _ h => h.1))) (zA_ (za (zaa zG57 hk (.inl rfl))) (zA_ (za (hb)) (za (hi)))); clear HO120 HK HB HI0; obtain ⟨HO120, HK, HB, HI0⟩ := n_; (try clear hb); (try clear hk); (try clear hi)))
 go_loopg [3, 4, 5] k (fun kq v3 v4 v5 w' => ∃ (x3_1 : List (S34)) (x4_1 : Int) (x5_1 : Int) (x1001_1 : Int) (x1002_1 : Int), v4 = .int .i64 x4_1 ∧ v5 = .int .i64 x5_1 ∧ Aside0 (spec_l00Src_stockActs.l0 kq x3_1 x4_1 x5_1 s0_0 x1001_1 x1002_1 = some (r1, r2, r3)) ∧ Aside0 (kq ≤ k) ∧ Aside0 (Kd.R k34 34 w' w.heap.size (fun _ => True) v3 x3_1) ∧ Aside0 (IsS67 w0 w' g s0_0 x1001_1 x1002_1) ∧ Aside0 (KeepBut w w' g none) ∧ Aside0 (Below w0.heap.size w0 w'))
 case atStart => exact ⟨(y118), (0), (t124), (t125), (t126), zG68, zG68, H', ⟨Nat.le_refl _⟩, ⟨by (with_reducible repeat (first | apply zj | apply zk | apply zl)); exact HO120.out⟩, ⟨zH30⟩, ⟨zH43⟩, ⟨zH42⟩⟩
 case round =>
  clear H'
  obtain ⟨x3_1, x4_1, x5_1, x1001_1, x1002_1, rfl, rfl, HA, HK1, HO_3, HI0, HK, HB⟩ := hrel
  cases gk with
  | zero => exact absurd HA.out (by simp [spec_l00Src_stockActs.l0])
  | succ k1 =>
   have H := HA.out
   clear HA
   simp only [spec_l00Src_stockActs.l0] at H
   by_cases c8 : x5_1 > 0
   rotate_left
   ·rw [if_neg c8] at H
    have c8b0 : decide (0 < x5_1) = false := decide_eq_false c8
    clear c8
    simp only [Option.some.injEq, Prod.mk.injEq] at H
    obtain ⟨rfl, rfl, rfl⟩ := H
    go_wp2
    go_ret
    exact ⟨_, zH70, zH74, zH30, zH42, zH43⟩

   rw [if_pos c8] at H
   have c8b0 : decide (0 < x5_1) = true := decide_eq_true c8
   clear c8
   obtain ⟨y127, hy127⟩ : ∃ y_ : List ByteArray, y_ = (([(⟨#[109, 105, 108, 107]⟩ : ByteArray), (⟨#[98, 114, 111, 116]⟩ : ByteArray)] : List ByteArray)) := ⟨_, rfl⟩
   replace H : ((spec_l00Src_pick.f s0_0 x1001_1 x1002_1 y127).bind fun bt130 => ((spec_l00Src_next.f s0_0 bt130.2.1 bt130.2.2 6).bind fun bt133 => ((spec_l00Src_next.f s0_0 bt133.2.1 bt133.2.2 20).bind fun bt136 => ((spec_l00Src_next.f s0_0 bt136.2.1 bt136.2.2 12).bind fun bt139 => ((spec_l00Src_next.f s0_0 bt139.2.1 bt139.2.2 11).bind fun bt143 => (if bt143.1 = 0 then (spec_l00Src_stockActs.j1 k1 x3_1 x4_1 x5_1 bt143.1 (bt143.1 == 0) s0_0 bt143.2.1 bt143.2.2 1 bt130.1 (wrap64 (1 + bt133.1)) (wrap64 (1 + bt136.1)) (wrap64 (x4_1 + bt139.1))) else (if bt143.1 = 1 then (spec_l00Src_stockActs.j1 k1 x3_1 x4_1 x5_1 bt143.1 (bt143.1 == 1) s0_0 bt143.2.1 bt143.2.2 1 bt130.1 (wrap64 (1 + bt133.1)) (wrap64 (1 + bt136.1)) (wrap64 (x4_1 + bt139.1))) else (if bt143.1 = 2 then (spec_l00Src_stockActs.j1 k1 x3_1 x4_1 x5_1 bt143.1 (bt143.1 == 2) s0_0 bt143.2.1 bt143.2.2 1 bt130.1 (wrap64 (1 + bt133.1)) (wrap64 (1 + bt136.1)) (wrap64 (x4_1 + bt139.1))) else (spec_l00Src_stockActs.j1 k1 x3_1 x4_1 x5_1 bt143.1 (bt143.1 == 3) s0_0 bt143.2.1 bt143.2.2 1 bt130.1 (wrap64 (1 + bt133.1)) (wrap64 (1 + bt136.1)) (wrap64 (x4_1 + bt139.1))))))))))) = some (r1, r2, r3) := by first | (rw [hy127]; with_reducible exact H) | (have H2_ := (Option.bind_some _ _).symm.trans H; rw [hy127]; with_reducible exact H2_) | (have H2_ := (Option.bind_some _ _).symm.trans H; with_reducible exact H2_) | with_reducible exact H | (rw [hy127]; exact H) | exact H
   have Ny127 := za hy127
   clear hy127
   replace H := Option.bind_eq_some_iff.mp H
   obtain ⟨⟨t130, t131, t132⟩, A90, H⟩ := H
   replace H : ((spec_l00Src_next.f s0_0 t131 t132 6).bind fun bt133 => ((spec_l00Src_next.f s0_0 bt133.2.1 bt133.2.2 20).bind fun bt136 => ((spec_l00Src_next.f s0_0 bt136.2.1 bt136.2.2 12).bind fun bt139 => ((spec_l00Src_next.f s0_0 bt139.2.1 bt139.2.2 11).bind fun bt143 => (if bt143.1 = 0 then (spec_l00Src_stockActs.j1 k1 x3_1 x4_1 x5_1 bt143.1 (bt143.1 == 0) s0_0 bt143.2.1 bt143.2.2 1 t130 (wrap64 (1 + bt133.1)) (wrap64 (1 + bt136.1)) (wrap64 (x4_1 + bt139.1))) else (if bt143.1 = 1 then (spec_l00Src_stockActs.j1 k1 x3_1 x4_1 x5_1 bt143.1 (bt143.1 == 1) s0_0 bt143.2.1 bt143.2.2 1 t130 (wrap64 (1 + bt133.1)) (wrap64 (1 + bt136.1)) (wrap64 (x4_1 + bt139.1))) else (if bt143.1 = 2 then (spec_l00Src_stockActs.j1 k1 x3_1 x4_1 x5_1 bt143.1 (bt143.1 == 2) s0_0 bt143.2.1 bt143.2.2 1 t130 (wrap64 (1 + bt133.1)) (wrap64 (1 + bt136.1)) (wrap64 (x4_1 + bt139.1))) else (spec_l00Src_stockActs.j1 k1 x3_1 x4_1 x5_1 bt143.1 (bt143.1 == 3) s0_0 bt143.2.1 bt143.2.2 1 t130 (wrap64 (1 + bt133.1)) (wrap64 (1 + bt136.1)) (wrap64 (x4_1 + bt139.1)))))))))) = some (r1, r2, r3) := H
   have A9 := za A90
   clear A90
   replace H := Option.bind_eq_some_iff.mp H
   obtain ⟨⟨t133, t134, t135⟩, A100, H⟩ := H
   replace H : ((spec_l00Src_next.f s0_0 t134 t135 20).bind fun bt136 => ((spec_l00Src_next.f s0_0 bt136.2.1 bt136.2.2 12).bind fun bt139 => ((spec_l00Src_next.f s0_0 bt139.2.1 bt139.2.2 11).bind fun bt143 => (if bt143.1 = 0 then (spec_l00Src_stockActs.j1 k1 x3_1 x4_1 x5_1 bt143.1 (bt143.1 == 0) s0_0 bt143.2.1 bt143.2.2 1 t130 (wrap64 (1 + t133)) (wrap64 (1 + bt136.1)) (wrap64 (x4_1 + bt139.1))) else (if bt143.1 = 1 then (spec_l00Src_stockActs.j1 k1 x3_1 x4_1 x5_1 bt143.1 (bt143.1 == 1) s0_0 bt143.2.1 bt143.2.2 1 t130 (wrap64 (1 + t133)) (wrap64 (1 + bt136.1)) (wrap64 (x4_1 + bt139.1))) else (if bt143.1 = 2 then (spec_l00Src_stockActs.j1 k1 x3_1 x4_1 x5_1 bt143.1 (bt143.1 == 2) s0_0 bt143.2.1 bt143.2.2 1 t130 (wrap64 (1 + t133)) (wrap64 (1 + bt136.1)) (wrap64 (x4_1 + bt139.1))) else (spec_l00Src_stockActs.j1 k1 x3_1 x4_1 x5_1 bt143.1 (bt143.1 == 3) s0_0 bt143.2.1 bt143.2.2 1 t130 (wrap64 (1 + t133)) (wrap64 (1 + bt136.1)) (wrap64 (x4_1 + bt139.1))))))))) = some (r1, r2, r3) := H
   have A10 := za A100
   clear A100
   replace H := Option.bind_eq_some_iff.mp H
   obtain ⟨⟨t136, t137, t138⟩, A110, H⟩ := H
   replace H : ((spec_l00Src_next.f s0_0 t137 t138 12).bind fun bt139 => ((spec_l00Src_next.f s0_0 bt139.2.1 bt139.2.2 11).bind fun bt143 => (if bt143.1 = 0 then (spec_l00Src_stockActs.j1 k1 x3_1 x4_1 x5_1 bt143.1 (bt143.1 == 0) s0_0 bt143.2.1 bt143.2.2 1 t130 (wrap64 (1 + t133)) (wrap64 (1 + t136)) (wrap64 (x4_1 + bt139.1))) else (if bt143.1 = 1 then (spec_l00Src_stockActs.j1 k1 x3_1 x4_1 x5_1 bt143.1 (bt143.1 == 1) s0_0 bt143.2.1 bt143.2.2 1 t130 (wrap64 (1 + t133)) (wrap64 (1 + t136)) (wrap64 (x4_1 + bt139.1))) else (if bt143.1 = 2 then (spec_l00Src_stockActs.j1 k1 x3_1 x4_1 x5_1 bt143.1 (bt143.1 == 2) s0_0 bt143.2.1 bt143.2.2 1 t130 (wrap64 (1 + t133)) (wrap64 (1 + t136)) (wrap64 (x4_1 + bt139.1))) else (spec_l00Src_stockActs.j1 k1 x3_1 x4_1 x5_1 bt143.1 (bt143.1 == 3) s0_0 bt143.2.1 bt143.2.2 1 t130 (wrap64 (1 + t133)) (wrap64 (1 + t136)) (wrap64 (x4_1 + bt139.1)))))))) = some (r1, r2, r3) := H
   have A11 := za A110
   clear A110
   replace H := Option.bind_eq_some_iff.mp H
   obtain ⟨⟨t139, t140, t141⟩, A120, H⟩ := H
   replace H : ((spec_l00Src_next.f s0_0 t140 t141 11).bind fun bt143 => (if bt143.1 = 0 then (spec_l00Src_stockActs.j1 k1 x3_1 x4_1 x5_1 bt143.1 (bt143.1 == 0) s0_0 bt143.2.1 bt143.2.2 1 t130 (wrap64 (1 + t133)) (wrap64 (1 + t136)) (wrap64 (x4_1 + t139))) else (if bt143.1 = 1 then (spec_l00Src_stockActs.j1 k1 x3_1 x4_1 x5_1 bt143.1 (bt143.1 == 1) s0_0 bt143.2.1 bt143.2.2 1 t130 (wrap64 (1 + t133)) (wrap64 (1 + t136)) (wrap64 (x4_1 + t139))) else (if bt143.1 = 2 then (spec_l00Src_stockActs.j1 k1 x3_1 x4_1 x5_1 bt143.1 (bt143.1 == 2) s0_0 bt143.2.1 bt143.2.2 1 t130 (wrap64 (1 + t133)) (wrap64 (1 + t136)) (wrap64 (x4_1 + t139))) else (spec_l00Src_stockActs.j1 k1 x3_1 x4_1 x5_1 bt143.1 (bt143.1 == 3) s0_0 bt143.2.1 bt143.2.2 1 t130 (wrap64 (1 + t133)) (wrap64 (1 + t136)) (wrap64 (x4_1 + t139))))))) = some (r1, r2, r3) := H
   have A12 := za A120
   clear A120
   replace H := Option.bind_eq_some_iff.mp H
   obtain ⟨⟨t143, t144, t145⟩, A130, H⟩ := H
   replace H : (if t143 = 0 then (spec_l00Src_stockActs.j1 k1 x3_1 x4_1 x5_1 t143 (t143 == 0) s0_0 t144 t145 1 t130 (wrap64 (1 + t133)) (wrap64 (1 + t136)) (wrap64 (x4_1 + t139))) else (if t143 = 1 then (spec_l00Src_stockActs.j1 k1 x3_1 x4_1 x5_1 t143 (t143 == 1) s0_0 t144 t145 1 t130 (wrap64 (1 + t133)) (wrap64 (1 + t136)) (wrap64 (x4_1 + t139))) else (if t143 = 2 then (spec_l00Src_stockActs.j1 k1 x3_1 x4_1 x5_1 t143 (t143 == 2) s0_0 t144 t145 1 t130 (wrap64 (1 + t133)) (wrap64 (1 + t136)) (wrap64 (x4_1 + t139))) else (spec_l00Src_stockActs.j1 k1 x3_1 x4_1 x5_1 t143 (t143 == 3) s0_0 t144 t145 1 t130 (wrap64 (1 + t133)) (wrap64 (1 + t136)) (wrap64 (x4_1 + t139)))))) = some (r1, r2, r3) := H
   obtain ⟨A13, HC14⟩ := zD2 A130 H
   clear A130 H
   go_upto_if 33 with (first | ((with_reducible refine gate_dst (N := 18) rfl ?_); refine Kd.R_lit Kd.string _ 9 ?hg (N := 18) ?hd (xs := ([(⟨#[109, 105, 108, 107]⟩ : ByteArray), (⟨#[98, 114, 111, 116]⟩ : ByteArray)] : List ByteArray)) (inner := [.string (⟨#[109, 105, 108, 107]⟩ : ByteArray), .string (⟨#[98, 114, 111, 116]⟩ : ByteArray)]) (ok := fun _ => True) (okp := fun _ => True) ?hr ?hp (fun _ hk => hk) trivial (Below.refl _ _) (Nat.le_refl _) (by simp) ?_; (case hd => rfl); (case hg => rfl); (case hr => exact zH81); (case hp => exact (Reps.one (show Kd.M Kd.string _ _ _ (⟨#[109, 105, 108, 107]⟩ : ByteArray) [.string (⟨#[109, 105, 108, 107]⟩ : ByteArray)] from rfl) (Reps.one (show Kd.M Kd.string _ _ _ (⟨#[98, 114, 111, 116]⟩ : ByteArray) [.string (⟨#[98, 114, 111, 116]⟩ : ByteArray)] from rfl) (Reps.none _ _)))); intro v128 w15 ho16 hb hg_ hnew_; clear hg_ hnew_; (first | rw [← Ny127.out] at ho16 | (simp only [Int.reduceToNat] at ho16; rw [← Ny127.out] at ho16)); have n_ := zA_ (za (zt zG67 hb)) (zA_ (za (zah ho16 (keep_size (w := w) (g := g) (row := none) zG57))) (zA_ (za (IsS67.below zK119 hb)) (zA_ (za (zaa zG57 (zak hb g none) (.inl rfl))) (za (zu zK128 hb))))); clear HO_3 HI0 HK HB; obtain ⟨HO_3, HO129, HI0, HK, HB⟩ := n_; clear hb ho16; obtain ⟨Ao17, co17, eo17⟩ := zab HO129.out; subst eo17) | ((with_reducible refine gate_callee (f := 36) rfl ?_); refine goesL_ (some 19) rfl rfl Try.func36 zG69 rfl #[.pointer (some ⟨g, 0, none⟩), .slice Ao17 y127.length co17] rfl zG56 ?_; (with_reducible refine (spec_l00Src_pick.calls g s0_0 x1001_1 x1002_1 _ _ y127 t130 t131 t132 w0 _ ?side1 ?side2 ?side3 ?side4 ?side5 A9.out).mono ?_); (case side1 => exact zH32); (case side2 => exact zH44); (case side3 => repeat (first | exact (zy HO129.out).2.2 | (with_reducible refine zad ?_ _) | (with_reducible refine zae ?_ _) | (with_reducible refine zaf ?_))); (case side4 => exact (zy HO129.out).2.1); (case side5 => exact far_slice (IsS67.own_ne HI0.out HO129.out zG70)); rintro e w18 ⟨rfl, hi, hb, hk⟩; refine ⟨_, rfl, ?_⟩; have n_ := zA_ (za (zn (zw (IsS67.apart (show IsS67 w0 _ g s0_0 x1001_1 x1002_1 from by repeat (first | (with_reducible first | exact HI0.out | apply IsS67.alloc | apply IsS67.drewN | apply IsS67.drew | apply IsS67.set_1 | apply IsS67.set_2) | exact HI0.out)) zG67 zG70) hk (fun _ h => h.2)) (fun _ h => h.1))) (zA_ (za (zn (zw (IsS67.apart (show IsS67 w0 _ g s0_0 x1001_1 x1002_1 from by repeat (first | (with_reducible first | exact HI0.out | apply IsS67.alloc | apply IsS67.drewN | apply IsS67.drew | apply IsS67.set_1 | apply IsS67.set_2) | exact HI0.out)) zK149 zG70) hk (fun _ h => h.2)) (fun _ h => h.1))) (zA_ (za (zaa zG57 hk (.inl rfl))) (zA_ (za (hb)) (za (hi))))); clear HO_3 HO129 HK HB HI0; obtain ⟨HO_3, HO129, HK, HB, HI0⟩ := n_; (try clear hb); (try clear hk); (try clear hi)) | ((with_reducible refine gate_callee (f := 34) rfl ?_); refine goesL_ (some 21) rfl rfl Try.func34 zG69 rfl #[.pointer (some ⟨g, 0, none⟩), .int .i64 6] rfl zG56 ?_; (with_reducible refine (spec_l00Src_next.calls g s0_0 t131 t132 6 t133 t134 t135 w0 _ ?side1 ?side2 A10.out).mono ?_); (case side1 => exact zH32); (case side2 => exact zH44); rintro e w19 ⟨rfl, hi, hb, hk⟩; refine ⟨_, rfl, ?_⟩; have n_ := zA_ (za (zn (zw (IsS67.apart (show IsS67 w0 _ g s0_0 t131 t132 from by repeat (first | (with_reducible first | exact HI0.out | apply IsS67.alloc | apply IsS67.drewN | apply IsS67.drew | apply IsS67.set_1 | apply IsS67.set_2) | exact HI0.out)) zG67 zG70) hk (fun _ h => h.2)) (fun _ h => h.1))) (zA_ (za (zn (zw (IsS67.apart (show IsS67 w0 _ g s0_0 t131 t132 from by repeat (first | (with_reducible first | exact HI0.out | apply IsS67.alloc | apply IsS67.drewN | apply IsS67.drew | apply IsS67.set_1 | apply IsS67.set_2) | exact HI0.out)) zK149 zG70) hk (fun _ h => h.2)) (fun _ h => h.1))) (zA_ (za (zaa zG57 hk (.inl rfl))) (zA_ (za (hb)) (za (hi))))); clear HO_3 HO129 HK HB HI0; obtain ⟨HO_3, HO129, HK, HB, HI0⟩ := n_; (try clear hb); (try clear hk); (try clear hi)) | ((with_reducible refine gate_callee (f := 34) rfl ?_); refine goesL_ (some 24) rfl rfl Try.func34 zG69 rfl #[.pointer (some ⟨g, 0, none⟩), .int .i64 20] rfl zG56 ?_; (with_reducible refine (spec_l00Src_next.calls g s0_0 t134 t135 20 t136 t137 t138 w0 _ ?side1 ?side2 A11.out).mono ?_); (case side1 => exact zH32); (case side2 => exact zH44); rintro e w20 ⟨rfl, hi, hb, hk⟩; refine ⟨_, rfl, ?_⟩; have n_ := zA_ (za (zn (zw (IsS67.apart (show IsS67 w0 _ g s0_0 t134 t135 from by repeat (first | (with_reducible first | exact HI0.out | apply IsS67.alloc | apply IsS67.drewN | apply IsS67.drew | apply IsS67.set_1 | apply IsS67.set_2) | exact HI0.out)) zG67 zG70) hk (fun _ h => h.2)) (fun _ h => h.1))) (zA_ (za (zn (zw (IsS67.apart (show IsS67 w0 _ g s0_0 t134 t135 from by repeat (first | (with_reducible first | exact HI0.out | apply IsS67.alloc | apply IsS67.drewN | apply IsS67.drew | apply IsS67.set_1 | apply IsS67.set_2) | exact HI0.out)) zK149 zG70) hk (fun _ h => h.2)) (fun _ h => h.1))) (zA_ (za (zaa zG57 hk (.inl rfl))) (zA_ (za (hb)) (za (hi))))); clear HO_3 HO129 HK HB HI0; obtain ⟨HO_3, HO129, HK, HB, HI0⟩ := n_; (try clear hb); (try clear hk); (try clear hi)) | ((with_reducible refine gate_callee (f := 34) rfl ?_); refine goesL_ (some 28) rfl rfl Try.func34 zG69 rfl #[.pointer (some ⟨g, 0, none⟩), .int .i64 12] rfl zG56 ?_; (with_reducible refine (spec_l00Src_next.calls g s0_0 t137 t138 12 t139 t140 t141 w0 _ ?side1 ?side2 A12.out).mono ?_); (case side1 => exact zH32); (case side2 => exact zH44); rintro e w21 ⟨rfl, hi, hb, hk⟩; refine ⟨_, rfl, ?_⟩; have n_ := zA_ (za (zn (zw (IsS67.apart (show IsS67 w0 _ g s0_0 t137 t138 from by repeat (first | (with_reducible first | exact HI0.out | apply IsS67.alloc | apply IsS67.drewN | apply IsS67.drew | apply IsS67.set_1 | apply IsS67.set_2) | exact HI0.out)) zG67 zG70) hk (fun _ h => h.2)) (fun _ h => h.1))) (zA_ (za (zn (zw (IsS67.apart (show IsS67 w0 _ g s0_0 t137 t138 from by repeat (first | (with_reducible first | exact HI0.out | apply IsS67.alloc | apply IsS67.drewN | apply IsS67.drew | apply IsS67.set_1 | apply IsS67.set_2) | exact HI0.out)) zK149 zG70) hk (fun _ h => h.2)) (fun _ h => h.1))) (zA_ (za (zaa zG57 hk (.inl rfl))) (zA_ (za (hb)) (za (hi))))); clear HO_3 HO129 HK HB HI0; obtain ⟨HO_3, HO129, HK, HB, HI0⟩ := n_; (try clear hb); (try clear hk); (try clear hi)) | ((with_reducible refine gate_dst (N := 6) rfl ?_); refine box_event ?hg (N := 6) ?hd (cs := (za5 0 (⟨#[]⟩ : ByteArray) 0 0 0)) (t := 34) ?hr ?_; (case hd => rfl); (case hg => rfl); (case hr => exact zH81); intro gb142 hg w22 hbox hb; have n_ := zA_ (za (zt (zn (zac zG67 gb142 (Nat.le_of_eq hg.symm)) (fun _ h_ => h_.2)) hb)) (zA_ (za (zt zK149 hb)) (zA_ (za (IsS67.below zK119 hb)) (zA_ (za (zaa zG57 (zak hb g none) (.inl rfl))) (zA_ (za (zu zK128 hb)) (zA_ (za (hbox)) (zA_ (zN1 w.heap.size hg (keep_size (w := w) (g := g) (row := none) zG57)) (zA_ (za ((Nat.le_trans HW0.out (by rw [hg]; exact (keep_size (w := w) (g := g) (row := none) zG57) : w.heap.size ≤ gb142) : w0.heap.size ≤ gb142))) (zN2 hg (IsS67.lt (show IsS67 w0 _ g s0_0 t140 t141 from by repeat (first | (with_reducible first | exact HI0.out | apply IsS67.alloc | apply IsS67.drewN | apply IsS67.drew | apply IsS67.set_1 | apply IsS67.set_2) | exact HI0.out))))))))))); clear HO_3 HO129 HI0 HK HB; obtain ⟨HO_3, HO129, HI0, HK, HB, BK142, GW142, GE142, NB0_142, NB142_0⟩ := n_; clear hb hbox hg; have hnb23 := NB142_0.out; have hnc23 := NB0_142.out; obtain ⟨hcz24_0, hcz24_1, hcz24_2, hcz24_3, hcz24_4, hfz24_0, hfz24_1, hfz24_2, hfz24_3, hfz24_4⟩ := zB5 BK142.out) | ((with_reducible refine gate_callee (f := 34) rfl ?_); refine goesL_ (some 32) rfl rfl Try.func34 zG69 rfl #[.pointer (some ⟨g, 0, none⟩), .int .i64 11] rfl zG56 ?_; (with_reducible refine (spec_l00Src_next.calls g s0_0 t140 t141 11 t143 t144 t145 w0 _ ?side1 ?side2 A13.out).mono ?_); (case side1 => exact zH18); (case side2 => exact zH34); rintro e w25 ⟨rfl, hi, hb, hk⟩; refine ⟨_, rfl, ?_⟩; have n_ := zA_ (za (zn (zw (IsS67.apart (show IsS67 w0 _ g s0_0 t140 t141 from by repeat (first | (with_reducible first | exact HI0.out | apply IsS67.alloc | apply IsS67.drewN | apply IsS67.drew | apply IsS67.set_1 | apply IsS67.set_2 | refine IsS67.far ?_ (IsS67.ne_blk HI0.out BK142.out zG70) _ | refine IsS67.far ?_ NB0_142.out _) | exact HI0.out)) (by (with_reducible repeat (first | apply zj | apply zk | apply zl)); exact (zn (zm (p := ⟨gb142, 4, none⟩) (zm (p := ⟨gb142, 3, none⟩) (zm (p := ⟨gb142, 2, none⟩) (zm (p := ⟨gb142, 1, none⟩) (zm (p := ⟨gb142, 0, none⟩) (zn HO_3.out (fun k_ hk => (⟨hk, hk⟩ : _ ∧ k_ ≠ gb142))) (fun _ hk => hk.2) (.int .i64 1)) (fun _ hk => hk.2) (.string t130)) (fun _ hk => hk.2) (.int .i64 (wrap64 (1 + t133)))) (fun _ hk => hk.2) (.int .i64 (wrap64 (1 + t136)))) (fun _ hk => hk.2) (.int .i64 (wrap64 (x4_1 + t139)))) (fun _ h_ => h_.1))) zG70) hk (fun _ h => h.2)) (fun _ h => h.1))) (zA_ (za (zn (zw (IsS67.apart (show IsS67 w0 _ g s0_0 t140 t141 from by repeat (first | (with_reducible first | exact HI0.out | apply IsS67.alloc | apply IsS67.drewN | apply IsS67.drew | apply IsS67.set_1 | apply IsS67.set_2 | refine IsS67.far ?_ (IsS67.ne_blk HI0.out BK142.out zG70) _ | refine IsS67.far ?_ NB0_142.out _) | exact HI0.out)) (by (with_reducible repeat (first | apply zj | apply zk | apply zl)); exact (zn (zm (p := ⟨gb142, 4, none⟩) (zm (p := ⟨gb142, 3, none⟩) (zm (p := ⟨gb142, 2, none⟩) (zm (p := ⟨gb142, 1, none⟩) (zm (p := ⟨gb142, 0, none⟩) (zz HO129.out BK142.out zG70) (fun _ hk => hk.2) (.int .i64 1)) (fun _ hk => hk.2) (.string t130)) (fun _ hk => hk.2) (.int .i64 (wrap64 (1 + t133)))) (fun _ hk => hk.2) (.int .i64 (wrap64 (1 + t136)))) (fun _ hk => hk.2) (.int .i64 (wrap64 (x4_1 + t139)))) (fun _ h_ => h_.1))) zG70) hk (fun _ h => h.2)) (fun _ h => h.1))) (zA_ (za (zal hk (g' := gb142) (o := .cells (za5 1 t130 (wrap64 (1 + t133)) (wrap64 (1 + t136)) (wrap64 (x4_1 + t139))) 34 (0, 0)) (by (with_reducible repeat (first | refine zc ?_ _ | refine ze ?_ | refine zb ?_ _)); refine zr (cs := (za5 1 t130 (wrap64 (1 + t133)) (wrap64 (1 + t136)) 0)) ?_ 4 _ rfl; (with_reducible repeat (first | refine zc ?_ _ | refine ze ?_ | refine zb ?_ _)); refine zr (cs := (za5 1 t130 (wrap64 (1 + t133)) 0 0)) ?_ 3 _ rfl; (with_reducible repeat (first | refine zc ?_ _ | refine ze ?_ | refine zb ?_ _)); refine zr (cs := (za5 1 t130 0 0 0)) ?_ 2 _ rfl; (with_reducible repeat (first | refine zc ?_ _ | refine ze ?_ | refine zb ?_ _)); refine zr (cs := (za5 1 (⟨#[]⟩ : ByteArray) 0 0 0)) ?_ 1 _ rfl; (with_reducible repeat (first | refine zc ?_ _ | refine ze ?_ | refine zb ?_ _)); refine zr (cs := (za5 0 (⟨#[]⟩ : ByteArray) 0 0 0)) ?_ 0 _ rfl; (with_reducible repeat (first | refine zc ?_ _ | refine ze ?_ | refine zb ?_ _)); exact BK142.out) NB142_0.out (by simp))) (zA_ (za (zaa zG54 hk (.inl rfl))) (zA_ (za (hb)) (za (hi)))))); clear HO_3 HO129 BK142 HK HB HI0; obtain ⟨HO_3, HO129, BK142, HK, HB, HI0⟩ := n_; (try clear hb); (try clear hk); (try clear hi)))
   (try simp only [Act.put, List.setIfInBounds_toArray, List.set_cons_zero, List.set_cons_succ])
   go_cut [33] (fun v33 wc => ∃ (kq : Nat) (x33_13 : Bool), v33 = .bool x33_13 ∧ Aside0 (spec_l00Src_stockActs.j1 kq x3_1 x4_1 x5_1 t143 x33_13 s0_0 t144 t145 1 t130 (wrap64 (1 + t133)) (wrap64 (1 + t136)) (wrap64 (x4_1 + t139)) = some (r1, r2, r3)) ∧ Aside0 (kq ≤ k1) ∧ Aside0 (Kd.R k34 34 wc w.heap.size (fun k_ => k_ ≠ gb142) u3 x3_1) ∧ Aside0 (wc.heap[gb142]? = some (.cells (za5 1 t130 (wrap64 (1 + t133)) (wrap64 (1 + t136)) (wrap64 (x4_1 + t139))) 34 (0, 0))) ∧ Aside0 (IsS67 w0 wc g s0_0 t144 t145) ∧ Aside0 (KeepBut w wc g none) ∧ Aside0 (Below w0.heap.size w0 wc))
   case first =>
    have H := HC14.out
    clear HC14
    by_cases c26 : t143 = 0
    ·rw [if_pos c26] at H
     have c26b0 : (t143 == 0) = true := beq_iff_eq.mpr c26
     have c26b1 : (t143 != 0) = false := bne_eq_false_iff_eq.mpr c26
     clear c26
     (first | rw [c26b0] | (simp only [i64_w, i32_w]; rw [c26b0]) | skip)
     have H' := za H
     clear H
     go_wp2
     go_meet
     case rel => exact ⟨_, ((t143 == 0)), zG68, H', ⟨zH78⟩, ⟨zH74⟩, ⟨zH65⟩, ⟨zH17⟩, ⟨zH31⟩, ⟨zH33⟩⟩
    rw [if_neg c26] at H
    have c26b0 : (t143 == 0) = false := beq_eq_false_iff_ne.mpr c26
    have c26b1 : (t143 != 0) = true := bne_iff_ne.mpr c26
    (first | rw [c26b0] | (simp only [i64_w, i32_w]; rw [c26b0]) | skip)
    by_cases c27 : t143 = 1
    ·rw [if_pos c27] at H
     have c27b0 : (t143 == 1) = true := beq_iff_eq.mpr c27
     have c27b1 : (t143 != 1) = false := bne_eq_false_iff_eq.mpr c27
     clear c27
     have H' := za H
     clear H
     go_wp2
     go_meet
     case rel => exact ⟨_, ((t143 == 1)), zG68, H', ⟨zH78⟩, ⟨zH74⟩, ⟨zH65⟩, ⟨zH17⟩, ⟨zH31⟩, ⟨zH33⟩⟩
    rw [if_neg c27] at H
    have c27b0 : (t143 == 1) = false := beq_eq_false_iff_ne.mpr c27
    have c27b1 : (t143 != 1) = true := bne_iff_ne.mpr c27
    by_cases c28 : t143 = 2
    rotate_left
    ·rw [if_neg c28] at H
     have c28b0 : (t143 == 2) = false := beq_eq_false_iff_ne.mpr c28
     have c28b1 : (t143 != 2) = true := bne_iff_ne.mpr c28
     have H' := za H
     clear H
     go_wp2
     go_meet
     case rel => exact ⟨_, ((t143 == 3)), zG68, H', ⟨zH78⟩, ⟨zH74⟩, ⟨zH65⟩, ⟨zH17⟩, ⟨zH31⟩, ⟨zH33⟩⟩
    rw [if_pos c28] at H
    have c28b0 : (t143 == 2) = true := beq_iff_eq.mpr c28
    have c28b1 : (t143 != 2) = false := bne_eq_false_iff_eq.mpr c28
    clear c28
    have H' := za H
    clear H
    go_wp2
    go_meet
    case rel => exact ⟨_, ((t143 == 2)), zG68, H', ⟨zH78⟩, ⟨zH74⟩, ⟨zH65⟩, ⟨zH17⟩, ⟨zH31⟩, ⟨zH33⟩⟩
   case rest =>
    clear HC14
    try clear c8
    try clear c8b0
    try clear c26
    try clear c26b0
    try clear c26b1
    try clear c27
    try clear c27b0
    try clear c27b1
    try clear c28
    try clear c28b0
    try clear c28b1
    try clear hcz24_0
    try clear hcz24_1
    try clear hcz24_2
    try clear hcz24_3
    try clear hcz24_4
    try clear hfz24_0
    try clear hfz24_1
    try clear hfz24_2
    try clear hfz24_3
    try clear hfz24_4
    obtain ⟨kq, x33_13, rfl, HA, HJ13, HO_3, BK142, HI0, HK, HB⟩ := hcut
    cases kq with
    | zero => exact absurd HA.out (by simp [spec_l00Src_stockActs.j1])
    | succ kj13 =>
     have H := HA.out
     clear HA
     simp only [spec_l00Src_stockActs.j1] at H
     by_cases c29 : x33_13 = true
     ·subst c29
      have H1 : ((spec_l00Src_next.f s0_0 t144 t145 16).bind fun bt146 => (if x3_1.length < 2932031007402 then (spec_l00Src_stockActs.l0 kj13 (x3_1 ++ [(⟨2, t130, 0, wrap64 (1 + bt146.1), 0⟩ : S34)]) x4_1 (wrap64 (x5_1 - 1)) s0_0 bt146.2.1 bt146.2.2) else (none))) = some (r1, r2, r3) := by rw [if_pos rfl] at H; exact H
      clear H
      have H := H1
      clear H1
      replace H := Option.bind_eq_some_iff.mp H
      obtain ⟨⟨t146, t147, t148⟩, A300, H⟩ := H
      replace H : (if x3_1.length < 2932031007402 then (spec_l00Src_stockActs.l0 kj13 (x3_1 ++ [(⟨2, t130, 0, wrap64 (1 + t146), 0⟩ : S34)]) x4_1 (wrap64 (x5_1 - 1)) s0_0 t147 t148) else (none)) = some (r1, r2, r3) := H
      have A30 := za A300
      clear A300
      by_cases c31 : x3_1.length < 2932031007402
      rotate_left
      ·rw [if_neg c31] at H
       exact absurd H (by simp)
      rw [if_pos c31] at H
      have LMc31 := za c31
      clear c31
      obtain ⟨y149, hy149⟩ : ∃ y_ : List (S34), y_ = (x3_1 ++ [(⟨2, t130, 0, wrap64 (1 + t146), 0⟩ : S34)]) := ⟨_, rfl⟩
      replace H : (spec_l00Src_stockActs.l0 kj13 y149 x4_1 (wrap64 (x5_1 - 1)) s0_0 t147 t148) = some (r1, r2, r3) := by first | (rw [hy149]; with_reducible exact H) | (have H2_ := (Option.bind_some _ _).symm.trans H; rw [hy149]; with_reducible exact H2_) | (have H2_ := (Option.bind_some _ _).symm.trans H; with_reducible exact H2_) | with_reducible exact H | (rw [hy149]; exact H) | exact H
      have Ny149 := za hy149
      clear hy149
      have H' := za H
      clear H
      try go_wp2
      obtain ⟨n0_, n1_, n2_, n3_, n4_⟩ := zD5 (zl HO_3.out) (ze BK142.out) (IsS67.drew HI0.out) (keep_drew HK.out) (zh HB.out)
      clear HO_3 BK142 HI0 HK HB
      have HO_3 := n0_
      have BK142 := n1_
      have HI0 := n2_
      have HK := n3_
      have HB := n4_
      clear n0_ n1_ n2_ n3_ n4_
      refine start_ (n := 7) (S := fun w' => w'.cell? ⟨gb142, 0, none⟩ = some (.int .i64 1) ∧ w'.cell? ⟨gb142, 1, none⟩ = some (.string t130) ∧ w'.cell? ⟨gb142, 2, none⟩ = some (.int .i64 (wrap64 (1 + t133))) ∧ w'.cell? ⟨gb142, 3, none⟩ = some (.int .i64 (wrap64 (1 + t136))) ∧ w'.cell? ⟨gb142, 4, none⟩ = some (.int .i64 (wrap64 (x4_1 + t139)))) (ds := [6]) #[false, false, false, false, false, false, false] zG69 rfl rfl ⟨(blk_cell BK142.out 0).trans rfl, (blk_cell BK142.out 1).trans rfl, (blk_cell BK142.out 2).trans rfl, (blk_cell BK142.out 3).trans rfl, (blk_cell BK142.out 4).trans rfl⟩ (fun hHeld => ?_)
      generalize wc.drew = w32 at HO_3 BK142 HI0 HK HB hHeld ⊢
      refine pure_ (i := 0) (N := some 38) (v := ?_) (a' := ?_) #[true, false, false, false, false, false, false] rfl rfl zG69 (fun _ _ _ h => h) (Or.inl ⟨by rfl, ?_⟩) ?_ ?_
      rotate_left
      ·intro w'
       go_simp
       with_reducible rfl
      rotate_left
      ·simp only [Act.put, List.setIfInBounds_toArray, List.set_cons_zero, List.set_cons_succ, i64_w, i32_w]
       rfl
      refine pure_ (i := 2) (N := some 40) (v := ?_) (a' := ?_) #[true, false, true, false, false, false, false] rfl rfl zG69 (fun _ _ _ h => h) (Or.inl ⟨by rfl, ?_⟩) ?_ ?_
      rotate_left
      ·intro w'
       go_simp
       with_reducible rfl
      rotate_left
      ·simp only [Act.put, List.setIfInBounds_toArray, List.set_cons_zero, List.set_cons_succ, i64_w, i32_w]
       rfl
      refine take_ (i := 1) (N := some 39) (v := ?_) (a' := ?_) #[true, true, true, false, false, false, false] rfl rfl zG69 (fun _ _ _ h => h) (Or.inl ⟨by rfl, ?_⟩) hHeld ?_ ?_
      rotate_left
      ·rintro w' ⟨s0, s1, s2, s3, s4⟩
       go_simp
       with_reducible rfl
      rotate_left
      ·simp only [Act.put, List.setIfInBounds_toArray, List.set_cons_zero, List.set_cons_succ, i64_w, i32_w]
       rfl
      refine one_ (i := 3) (N := some 41) #[true, true, true, true, false, false, false] rfl rfl zG69 zG70 (fun K hK => ?_)
      refine goes_ Try.func34 zG69 rfl #[.pointer (some ⟨g, 0, none⟩), .int .i64 16] (by rfl) rfl rfl zG56 ?_
      with_reducible refine (spec_l00Src_next.calls g s0_0 t144 t145 16 t146 t147 t148 w0 _ ?side1 ?side2 A30.out).mono ?_
      (case side1 => exact zH18)
      (case side2 => exact zH34)
      rintro e w33 ⟨rfl, hi, hb, hk⟩
      refine ⟨_, rfl, ?_⟩
      obtain ⟨n0_, n1_, n2_, n3_, n4_⟩ := zD5 (zn (zw (IsS67.apart (show IsS67 w0 _ g s0_0 t144 t145 from by repeat (first | (with_reducible first | exact HI0.out | apply IsS67.alloc | apply IsS67.drewN | apply IsS67.drew | apply IsS67.set_1 | apply IsS67.set_2 | refine IsS67.far ?_ (IsS67.ne_blk HI0.out BK142.out zG70) _ | refine IsS67.far ?_ NB0_142.out _) | exact HI0.out)) zG67 zG70) hk (fun _ h => h.2)) (fun _ h => h.1)) (zal hk (g' := gb142) (o := .cells (za5 1 t130 (wrap64 (1 + t133)) (wrap64 (1 + t136)) (wrap64 (x4_1 + t139))) 34 (0, 0)) zG59 NB142_0.out (by simp)) (zaa zG54 hk (.inl rfl)) (hb) (hi)
      clear HO_3 BK142 HK HB HI0
      have HO_3 := n0_
      have BK142 := n1_
      have HK := n2_
      have HB := n3_
      have HI0 := n4_
      clear n0_ n1_ n2_ n3_ n4_
      (try clear hb)
      (try clear hb2)
      (try clear hk)
      (try clear hi)
      refine hK.out _ _ ⟨(blk_cell BK142.out 0).trans rfl, (blk_cell BK142.out 1).trans rfl, (blk_cell BK142.out 2).trans rfl, (blk_cell BK142.out 3).trans rfl, (blk_cell BK142.out 4).trans rfl⟩ (fun hHeld => ?_)
      clear hK K
      refine norm_ (a' := ?_) ?_ ?_
      rotate_left
      ·show Act.put _ (some 41) _ = _
       simp only [Act.put, List.setIfInBounds_toArray, List.set_cons_zero, List.set_cons_succ, i64_w, i32_w]
       rfl
      refine pure_ (i := 4) (N := some 42) (v := ?_) (a' := ?_) #[true, true, true, true, true, false, false] rfl rfl zG69 (fun _ _ _ h => h) (Or.inl ⟨by rfl, ?_⟩) ?_ ?_
      rotate_left
      ·intro w'
       go_simp
       with_reducible rfl
      rotate_left
      ·simp only [Act.put, List.setIfInBounds_toArray, List.set_cons_zero, List.set_cons_succ, i64_w, i32_w]
       rfl
      refine pure_ (i := 5) (N := some 43) (v := ?_) (a' := ?_) #[true, true, true, true, true, true, false] rfl rfl zG69 (fun _ _ _ h => h) (Or.inl ⟨by rfl, ?_⟩) ?_ ?_
      rotate_left
      ·intro w'
       go_simp
       with_reducible rfl
      rotate_left
      ·simp only [Act.put, List.setIfInBounds_toArray, List.set_cons_zero, List.set_cons_succ, i64_w, i32_w]
       rfl
      refine last_ (i := 6) (N := none) #[true, true, true, true, true, true, true] rfl rfl zG69 zG70 (fun K hK => ?_)
      have hs34 : w33.cell? ⟨gb142, 0, none⟩ = some (.int .i64 1) := (blk_cell BK142.out 0).trans rfl
      have hfs34 := zd BK142.out 0
      have hs35 : w33.cell? ⟨gb142, 1, none⟩ = some (.string t130) := (blk_cell BK142.out 1).trans rfl
      have hfs35 := zd BK142.out 1
      have hs36 : w33.cell? ⟨gb142, 2, none⟩ = some (.int .i64 (wrap64 (1 + t133))) := (blk_cell BK142.out 2).trans rfl
      have hfs36 := zd BK142.out 2
      have hs37 : w33.cell? ⟨gb142, 3, none⟩ = some (.int .i64 (wrap64 (1 + t136))) := (blk_cell BK142.out 3).trans rfl
      have hfs37 := zd BK142.out 3
      have hs38 : w33.cell? ⟨gb142, 4, none⟩ = some (.int .i64 (wrap64 (x4_1 + t139))) := (blk_cell BK142.out 4).trans rfl
      have hfs38 := zd BK142.out 4
      refine skip_ (w1 := ?_) (by rfl) rfl ?_ ?_
      rotate_left
      ·go_simp
       rfl
      refine hK.out _ _ ?_
      clear hK K
      refine done_ zG69 ?_
      have hnb39 := NB142_0.out
      have hnc39 := NB0_142.out
      obtain ⟨hcz40_0, hcz40_1, hcz40_2, hcz40_3, hcz40_4, hfz40_0, hfz40_1, hfz40_2, hfz40_3, hfz40_4⟩ := zB5 BK142.out
      try go_wp2_with (first | ((with_reducible refine gate_builtin (b := .append) (xs := #[.tmp 87, .tmp 89]) rfl ?_); at_builtin; refine zas k34 w.heap.size rfl (.tmp 87) (.tmp 89) 23 34 (.agg #[(.int .i64 0), (.string ⟨#[]⟩), (.int .i64 0), (.int .i64 0), (.int .i64 0)]) 48 rfl Try.underlying23 info34 rfl zG70 (by omega) u3 x3_1 (⟨2, t130, 0, wrap64 (1 + t146), 0⟩ : S34) [.int .i64 2, .string t130, .int .i64 0, .int .i64 (wrap64 (1 + t146)), .int .i64 0] (fun k_ => k_ ≠ gb142) (fun _ => False) rfl (by first | (go_simp; done) | (go_simp; rfl)) ?aP (fun _ hk => hk.elim) ?aF ?aO (Below.refl _ _) ?aS ?aL ?_; (case aP => exact k34_mkM _ _ _ (⟨2, t130, 0, wrap64 (1 + t146), 0⟩ : S34)); (case aF => exact (fun k_ hk => Kd.freshB (g := gb142) (o := .cells (za5 2 t130 0 (wrap64 (1 + t146)) 0) 34 (0, 0)) zK87 k_ hk)); (case aO => exact (by (with_reducible repeat (first | apply zj | apply zk | apply zl)); exact zn (zm (p := ⟨gb142, 4, none⟩) (zm (p := ⟨gb142, 3, none⟩) (zm (p := ⟨gb142, 2, none⟩) (zm (p := ⟨gb142, 1, none⟩) (zm (p := ⟨gb142, 0, none⟩) (zn HO_3.out (fun k_ hk => (⟨hk, hk⟩ : _ ∧ k_ ≠ gb142))) (fun _ hk => hk.2) (.int .i64 2)) (fun _ hk => hk.2) (.string t130)) (fun _ hk => hk.2) (.int .i64 0)) (fun _ hk => hk.2) (.int .i64 (wrap64 (1 + t146)))) (fun _ hk => hk.2) (.int .i64 0)) (fun _ hk => hk.1))); (case aS => exact zH79); (case aL => have := LMc31.out; omega); intro v150 w41 ho hb hg hat; rw [← Ny149.out] at ho; have n_ := zA_ (za (zam (g := gb142) (o := .cells (za5 2 t130 0 (wrap64 (1 + t146)) 0) 34 (0, 0)) zK87 hg (Kd.R_away HO_3.out (fun _ hk => hk)))) (zA_ (za (IsS67.grown (show IsS67 w0 _ g s0_0 t147 t148 from by repeat (first | (with_reducible first | exact HI0.out | apply IsS67.alloc | apply IsS67.drewN | apply IsS67.drew | apply IsS67.set_1 | apply IsS67.set_2 | refine IsS67.far ?_ (IsS67.ne_blk HI0.out BK142.out zG70) _ | refine IsS67.far ?_ NB0_142.out _) | exact HI0.out)) hg (IsS67.own_ne HI0.out HO_3.out zG70))) (zA_ (za (zar zG55 HL.out hb)) (zA_ (za (zaa zG54 (zaq hg g) (zax HO_3.out))) (za (ho))))); clear BK142 HI0 HB HK HO_3; obtain ⟨BK142, HI0, HB, HK, HO151⟩ := n_; clear ho hb hg hat))
      go_roundg kj13
      case measure => have := HK1.out; have := HJ13.out; omega
      case rel => exact ⟨(y149), (x4_1), (wrap64 (x5_1 - 1)), (t147), (t148), zG68, zG68, H', ⟨by have := HK1.out; have := HJ13.out; omega⟩, ⟨by (with_reducible repeat (first | apply zj | apply zk | apply zl)); exact zn HO151.out (fun _ hk => trivial)⟩, ⟨zH17⟩, ⟨zH31⟩, ⟨zH33⟩⟩
     replace c29 := Bool.eq_false_iff.mpr c29
     subst c29
     have H1 : (if t143 = 4 then ((spec_l00Src_next.f s0_0 t144 t145 5).bind fun bt152 => (if x3_1.length < 2932031007402 then (spec_l00Src_stockActs.l0 kj13 (x3_1 ++ [(⟨3, (⟨#[]⟩ : ByteArray), 0, wrap64 (x4_1 + bt152.1), 0⟩ : S34)]) (wrap64 (x4_1 + bt152.1)) (wrap64 (x5_1 - 1)) s0_0 bt152.2.1 bt152.2.2) else (none))) else (if t143 = 5 then (spec_l00Src_stockActs.j2 kj13 x3_1 x4_1 x5_1 t143 (t143 == 5) s0_0 t144 t145 1 t130 (wrap64 (1 + t133)) (wrap64 (1 + t136)) (wrap64 (x4_1 + t139))) else (spec_l00Src_stockActs.j2 kj13 x3_1 x4_1 x5_1 t143 (t143 == 6) s0_0 t144 t145 1 t130 (wrap64 (1 + t133)) (wrap64 (1 + t136)) (wrap64 (x4_1 + t139))))) = some (r1, r2, r3) := by rw [if_neg (show ¬ (false = true) by decide)] at H; exact H
     clear H
     have H := H1
     clear H1
     by_cases c42 : t143 = 4
     ·rw [if_pos c42] at H
      have c42b0 : (t143 == 4) = true := beq_iff_eq.mpr c42
      have c42b1 : (t143 != 4) = false := bne_eq_false_iff_eq.mpr c42
      clear c42
      replace H := Option.bind_eq_some_iff.mp H
      obtain ⟨⟨t152, t153, t154⟩, A430, H⟩ := H
      replace H : (if x3_1.length < 2932031007402 then (spec_l00Src_stockActs.l0 kj13 (x3_1 ++ [(⟨3, (⟨#[]⟩ : ByteArray), 0, wrap64 (x4_1 + t152), 0⟩ : S34)]) (wrap64 (x4_1 + t152)) (wrap64 (x5_1 - 1)) s0_0 t153 t154) else (none)) = some (r1, r2, r3) := H
      have A43 := za A430
      clear A430
      by_cases c44 : x3_1.length < 2932031007402
      rotate_left
      ·rw [if_neg c44] at H
       exact absurd H (by simp)
      rw [if_pos c44] at H
      have LMc44 := za c44
      clear c44
      obtain ⟨y155, hy155⟩ : ∃ y_ : List (S34), y_ = (x3_1 ++ [(⟨3, (⟨#[]⟩ : ByteArray), 0, wrap64 (x4_1 + t152), 0⟩ : S34)]) := ⟨_, rfl⟩
      replace H : (spec_l00Src_stockActs.l0 kj13 y155 (wrap64 (x4_1 + t152)) (wrap64 (x5_1 - 1)) s0_0 t153 t154) = some (r1, r2, r3) := by first | (rw [hy155]; with_reducible exact H) | (have H2_ := (Option.bind_some _ _).symm.trans H; rw [hy155]; with_reducible exact H2_) | (have H2_ := (Option.bind_some _ _).symm.trans H; with_reducible exact H2_) | with_reducible exact H | (rw [hy155]; exact H) | exact H
      have Ny155 := za hy155
      clear hy155
      have H' := za H
      clear H
      go_wp2_with (first | ((with_reducible refine gate_callee (f := 34) rfl ?_); refine goesL_ (some 48) rfl rfl Try.func34 zG69 rfl #[.pointer (some ⟨g, 0, none⟩), .int .i64 5] rfl zG56 ?_; (with_reducible refine (spec_l00Src_next.calls g s0_0 t144 t145 5 t152 t153 t154 w0 _ ?side1 ?side2 A43.out).mono ?_); (case side1 => exact zH18); (case side2 => exact zH34); rintro e w45 ⟨rfl, hi, hb, hk⟩; refine ⟨_, rfl, ?_⟩; have n_ := zA_ (za (zn (zw (IsS67.apart (show IsS67 w0 _ g s0_0 t144 t145 from by repeat (first | (with_reducible first | exact HI0.out | apply IsS67.alloc | apply IsS67.drewN | apply IsS67.drew | apply IsS67.set_1 | apply IsS67.set_2 | refine IsS67.far ?_ (IsS67.ne_blk HI0.out BK142.out zG70) _ | refine IsS67.far ?_ NB0_142.out _) | exact HI0.out)) zG67 zG70) hk (fun _ h => h.2)) (fun _ h => h.1))) (zA_ (za (zal hk (g' := gb142) (o := .cells (za5 1 t130 (wrap64 (1 + t133)) (wrap64 (1 + t136)) (wrap64 (x4_1 + t139))) 34 (0, 0)) zG59 NB142_0.out (by simp))) (zA_ (za (zaa zG54 hk (.inl rfl))) (zA_ (za (hb)) (za (hi))))); clear HO_3 BK142 HK HB HI0; obtain ⟨HO_3, BK142, HK, HB, HI0⟩ := n_; (try clear hb); (try clear hk); (try clear hi); have hnb46 := NB142_0.out; have hnc46 := NB0_142.out; obtain ⟨hcz47_0, hcz47_1, hcz47_2, hcz47_3, hcz47_4, hfz47_0, hfz47_1, hfz47_2, hfz47_3, hfz47_4⟩ := zB5 BK142.out) | ((with_reducible refine gate_builtin (b := .append) (xs := #[.tmp 87, .tmp 89]) rfl ?_); at_builtin; refine zas k34 w.heap.size rfl (.tmp 87) (.tmp 89) 23 34 (.agg #[(.int .i64 0), (.string ⟨#[]⟩), (.int .i64 0), (.int .i64 0), (.int .i64 0)]) 48 rfl Try.underlying23 info34 rfl zG70 (by omega) u3 x3_1 (⟨3, (⟨#[]⟩ : ByteArray), 0, wrap64 (x4_1 + t152), 0⟩ : S34) [.int .i64 3, .string (⟨#[]⟩ : ByteArray), .int .i64 0, .int .i64 (wrap64 (x4_1 + t152)), .int .i64 0] (fun k_ => k_ ≠ gb142) (fun _ => False) rfl (by first | (go_simp; done) | (go_simp; rfl)) ?aP (fun _ hk => hk.elim) ?aF ?aO (Below.refl _ _) ?aS ?aL ?_; (case aP => exact k34_mkM _ _ _ (⟨3, (⟨#[]⟩ : ByteArray), 0, wrap64 (x4_1 + t152), 0⟩ : S34)); (case aF => exact (fun k_ hk => Kd.freshB (g := gb142) (o := .cells (za5 3 (⟨#[]⟩ : ByteArray) 0 (wrap64 (x4_1 + t152)) 0) 34 (0, 0)) zK85 k_ hk)); (case aO => exact (by (with_reducible repeat (first | apply zj | apply zk | apply zl)); exact zn (zm (p := ⟨gb142, 4, none⟩) (zm (p := ⟨gb142, 3, none⟩) (zm (p := ⟨gb142, 2, none⟩) (zm (p := ⟨gb142, 1, none⟩) (zm (p := ⟨gb142, 0, none⟩) (zn HO_3.out (fun k_ hk => (⟨hk, hk⟩ : _ ∧ k_ ≠ gb142))) (fun _ hk => hk.2) (.int .i64 3)) (fun _ hk => hk.2) (.string (⟨#[]⟩ : ByteArray))) (fun _ hk => hk.2) (.int .i64 0)) (fun _ hk => hk.2) (.int .i64 (wrap64 (x4_1 + t152)))) (fun _ hk => hk.2) (.int .i64 0)) (fun _ hk => hk.1))); (case aS => exact zH79); (case aL => have := LMc44.out; omega); intro v156 w48 ho hb hg hat; rw [← Ny155.out] at ho; have n_ := zA_ (za (zam (g := gb142) (o := .cells (za5 3 (⟨#[]⟩ : ByteArray) 0 (wrap64 (x4_1 + t152)) 0) 34 (0, 0)) zK85 hg (Kd.R_away HO_3.out (fun _ hk => hk)))) (zA_ (za (IsS67.grown (show IsS67 w0 _ g s0_0 t153 t154 from by repeat (first | (with_reducible first | exact HI0.out | apply IsS67.alloc | apply IsS67.drewN | apply IsS67.drew | apply IsS67.set_1 | apply IsS67.set_2 | refine IsS67.far ?_ (IsS67.ne_blk HI0.out BK142.out zG70) _ | refine IsS67.far ?_ NB0_142.out _) | exact HI0.out)) hg (IsS67.own_ne HI0.out HO_3.out zG70))) (zA_ (za (zar zG55 HL.out hb)) (zA_ (za (zaa zG54 (zaq hg g) (zax HO_3.out))) (za (ho))))); clear BK142 HI0 HB HK HO_3; obtain ⟨BK142, HI0, HB, HK, HO157⟩ := n_; clear ho hb hg hat))
      go_roundg kj13
      case measure => have := HK1.out; have := HJ13.out; omega
      case rel => exact ⟨(y155), (wrap64 (x4_1 + t152)), (wrap64 (x5_1 - 1)), (t153), (t154), zG68, zG68, H', ⟨by have := HK1.out; have := HJ13.out; omega⟩, ⟨by (with_reducible repeat (first | apply zj | apply zk | apply zl)); exact zn HO157.out (fun _ hk => trivial)⟩, ⟨zH17⟩, ⟨zH31⟩, ⟨zH33⟩⟩
     rw [if_neg c42] at H
     have c42b0 : (t143 == 4) = false := beq_eq_false_iff_ne.mpr c42
     have c42b1 : (t143 != 4) = true := bne_iff_ne.mpr c42
     have HC49 := za H
     clear H
     go_upto_if 52 with (fail)
     go_cut [52] (fun v52 wc => ∃ (kq : Nat) (x52_48 : Bool), v52 = .bool x52_48 ∧ Aside0 (spec_l00Src_stockActs.j2 kq x3_1 x4_1 x5_1 t143 x52_48 s0_0 t144 t145 1 t130 (wrap64 (1 + t133)) (wrap64 (1 + t136)) (wrap64 (x4_1 + t139)) = some (r1, r2, r3)) ∧ Aside0 (kq ≤ kj13) ∧ Aside0 (Kd.R k34 34 wc w.heap.size (fun k_ => k_ ≠ gb142) u3 x3_1) ∧ Aside0 (wc.heap[gb142]? = some (.cells (za5 1 t130 (wrap64 (1 + t133)) (wrap64 (1 + t136)) (wrap64 (x4_1 + t139))) 34 (0, 0))) ∧ Aside0 (IsS67 w0 wc g s0_0 t144 t145) ∧ Aside0 (KeepBut w wc g none) ∧ Aside0 (Below w0.heap.size w0 wc))
     case first =>
      have H := HC49.out
      clear HC49
      by_cases c50 : t143 = 5
      rotate_left
      ·rw [if_neg c50] at H
       have c50b0 : (t143 == 5) = false := beq_eq_false_iff_ne.mpr c50
       have c50b1 : (t143 != 5) = true := bne_iff_ne.mpr c50
       (first | rw [c50b0] | (simp only [i64_w, i32_w]; rw [c50b0]) | skip)
       have H' := za H
       clear H
       go_wp2
       go_meet
       case rel => exact ⟨_, ((t143 == 6)), zG68, H', ⟨by have := HK1.out; have := HJ13.out; first | omega | exact Nat.le_refl _⟩, ⟨zH74⟩, ⟨zH65⟩, ⟨zH17⟩, ⟨zH31⟩, ⟨zH33⟩⟩
      rw [if_pos c50] at H
      have c50b0 : (t143 == 5) = true := beq_iff_eq.mpr c50
      have c50b1 : (t143 != 5) = false := bne_eq_false_iff_eq.mpr c50
      clear c50
      (first | rw [c50b0] | (simp only [i64_w, i32_w]; rw [c50b0]) | skip)
      have H' := za H
      clear H
      go_wp2
      go_meet
      case rel => exact ⟨_, ((t143 == 5)), zG68, H', ⟨by have := HK1.out; have := HJ13.out; first | omega | exact Nat.le_refl _⟩, ⟨zH74⟩, ⟨zH65⟩, ⟨zH17⟩, ⟨zH31⟩, ⟨zH33⟩⟩
     case rest =>
      clear HC49
      try clear c8
      try clear c8b0
      try clear c26
      try clear c26b0
      try clear c26b1
      try clear c27
      try clear c27b0
      try clear c27b1
      try clear c28
      try clear c28b0
      try clear c28b1
      try clear c29
      try clear c31
      try clear c42
      try clear c42b0
      try clear c42b1
      try clear c44
      try clear c50
      try clear c50b0
      try clear c50b1
      try clear hcz24_0
      try clear hcz24_1
      try clear hcz24_2
      try clear hcz24_3
      try clear hcz24_4
      try clear hcz40_0
      try clear hcz40_1
      try clear hcz40_2
      try clear hcz40_3
      try clear hcz40_4
      try clear hcz47_0
      try clear hcz47_1
      try clear hcz47_2
      try clear hcz47_3
      try clear hcz47_4
      try clear hfz24_0
      try clear hfz24_1
      try clear hfz24_2
      try clear hfz24_3
      try clear hfz24_4
      try clear hfz40_0
      try clear hfz40_1
      try clear hfz40_2
      try clear hfz40_3
      try clear hfz40_4
      try clear hfz47_0
      try clear hfz47_1
      try clear hfz47_2
      try clear hfz47_3
      try clear hfz47_4
      obtain ⟨kq, x52_48, rfl, HA, HJ48, HO_3, BK142, HI0, HK, HB⟩ := hcut
      cases kq with
      | zero => exact absurd HA.out (by simp [spec_l00Src_stockActs.j2])
      | succ kj48 =>
       have H := HA.out
       clear HA
       simp only [spec_l00Src_stockActs.j2] at H
       by_cases c51 : x52_48 = true
       ·subst c51
        have H1 : ((spec_l00Src_next.f s0_0 t144 t145 4).bind fun bt158 => ((spec_l00Src_next.f s0_0 bt158.2.1 bt158.2.2 14).bind fun bt161 => (if x3_1.length < 2932031007402 then (spec_l00Src_stockActs.l0 kj48 (x3_1 ++ [(⟨wrap64 (4 + bt158.1), t130, (wrap64 (1 + t133)), bt161.1, (wrap64 (x4_1 + t139))⟩ : S34)]) x4_1 (wrap64 (x5_1 - 1)) s0_0 bt161.2.1 bt161.2.2) else (none)))) = some (r1, r2, r3) := by rw [if_pos rfl] at H; exact H
        clear H
        have H := H1
        clear H1
        replace H := Option.bind_eq_some_iff.mp H
        obtain ⟨⟨t158, t159, t160⟩, A520, H⟩ := H
        replace H : ((spec_l00Src_next.f s0_0 t159 t160 14).bind fun bt161 => (if x3_1.length < 2932031007402 then (spec_l00Src_stockActs.l0 kj48 (x3_1 ++ [(⟨wrap64 (4 + t158), t130, (wrap64 (1 + t133)), bt161.1, (wrap64 (x4_1 + t139))⟩ : S34)]) x4_1 (wrap64 (x5_1 - 1)) s0_0 bt161.2.1 bt161.2.2) else (none))) = some (r1, r2, r3) := H
        have A52 := za A520
        clear A520
        replace H := Option.bind_eq_some_iff.mp H
        obtain ⟨⟨t161, t162, t163⟩, A530, H⟩ := H
        replace H : (if x3_1.length < 2932031007402 then (spec_l00Src_stockActs.l0 kj48 (x3_1 ++ [(⟨wrap64 (4 + t158), t130, (wrap64 (1 + t133)), t161, (wrap64 (x4_1 + t139))⟩ : S34)]) x4_1 (wrap64 (x5_1 - 1)) s0_0 t162 t163) else (none)) = some (r1, r2, r3) := H
        have A53 := za A530
        clear A530
        by_cases c54 : x3_1.length < 2932031007402
        rotate_left
        ·rw [if_neg c54] at H
         exact absurd H (by simp)
        rw [if_pos c54] at H
        have LMc54 := za c54
        clear c54
        obtain ⟨y164, hy164⟩ : ∃ y_ : List (S34), y_ = (x3_1 ++ [(⟨wrap64 (4 + t158), t130, (wrap64 (1 + t133)), t161, (wrap64 (x4_1 + t139))⟩ : S34)]) := ⟨_, rfl⟩
        replace H : (spec_l00Src_stockActs.l0 kj48 y164 x4_1 (wrap64 (x5_1 - 1)) s0_0 t162 t163) = some (r1, r2, r3) := by first | (rw [hy164]; with_reducible exact H) | (have H2_ := (Option.bind_some _ _).symm.trans H; rw [hy164]; with_reducible exact H2_) | (have H2_ := (Option.bind_some _ _).symm.trans H; with_reducible exact H2_) | with_reducible exact H | (rw [hy164]; exact H) | exact H
        have Ny164 := za hy164
        clear hy164
        have H' := za H
        clear H
        go_wp2_with (first | ((with_reducible refine gate_callee (f := 34) rfl ?_); refine goesL_ (some 56) rfl rfl Try.func34 zG69 rfl #[.pointer (some ⟨g, 0, none⟩), .int .i64 4] rfl zG56 ?_; (with_reducible refine (spec_l00Src_next.calls g s0_0 t144 t145 4 t158 t159 t160 w0 _ ?side1 ?side2 A52.out).mono ?_); (case side1 => exact zH18); (case side2 => exact zH34); rintro e w55 ⟨rfl, hi, hb, hk⟩; refine ⟨_, rfl, ?_⟩; have n_ := zA_ (za (zn (zw (IsS67.apart (show IsS67 w0 _ g s0_0 t144 t145 from by repeat (first | (with_reducible first | exact HI0.out | apply IsS67.alloc | apply IsS67.drewN | apply IsS67.drew | apply IsS67.set_1 | apply IsS67.set_2 | refine IsS67.far ?_ (IsS67.ne_blk HI0.out BK142.out zG70) _ | refine IsS67.far ?_ NB0_142.out _) | exact HI0.out)) zG67 zG70) hk (fun _ h => h.2)) (fun _ h => h.1))) (zA_ (za (zal hk (g' := gb142) (o := .cells (za5 1 t130 (wrap64 (1 + t133)) (wrap64 (1 + t136)) (wrap64 (x4_1 + t139))) 34 (0, 0)) zG59 NB142_0.out (by simp))) (zA_ (za (zaa zG54 hk (.inl rfl))) (zA_ (za (hb)) (za (hi))))); clear HO_3 BK142 HK HB HI0; obtain ⟨HO_3, BK142, HK, HB, HI0⟩ := n_; (try clear hb); (try clear hk); (try clear hi); have hnb56 := NB142_0.out; have hnc56 := NB0_142.out; obtain ⟨hcz57_0, hcz57_1, hcz57_2, hcz57_3, hcz57_4, hfz57_0, hfz57_1, hfz57_2, hfz57_3, hfz57_4⟩ := zB5 BK142.out) | ((with_reducible refine gate_callee (f := 34) rfl ?_); refine goesL_ (some 60) rfl rfl Try.func34 zG69 rfl #[.pointer (some ⟨g, 0, none⟩), .int .i64 14] rfl zG56 ?_; (with_reducible refine (spec_l00Src_next.calls g s0_0 t159 t160 14 t161 t162 t163 w0 _ ?side1 ?side2 A53.out).mono ?_); (case side1 => exact zH18); (case side2 => exact zH34); rintro e w58 ⟨rfl, hi, hb, hk⟩; refine ⟨_, rfl, ?_⟩; have n_ := zA_ (za (zn (zw (IsS67.apart (show IsS67 w0 _ g s0_0 t159 t160 from by repeat (first | (with_reducible first | exact HI0.out | apply IsS67.alloc | apply IsS67.drewN | apply IsS67.drew | apply IsS67.set_1 | apply IsS67.set_2 | refine IsS67.far ?_ (IsS67.ne_blk HI0.out BK142.out zG70) _ | refine IsS67.far ?_ NB0_142.out _) | exact HI0.out)) (by (with_reducible repeat (first | apply zj | apply zk | apply zl)); exact (zn (zm (p := ⟨gb142, 0, none⟩) (zn HO_3.out (fun k_ hk => (⟨hk, hk⟩ : _ ∧ k_ ≠ gb142))) (fun _ hk => hk.2) (.int .i64 (wrap64 (4 + t158)))) (fun _ h_ => h_.1))) zG70) hk (fun _ h => h.2)) (fun _ h => h.1))) (zA_ (za (zal hk (g' := gb142) (o := .cells (za5 (wrap64 (4 + t158)) t130 (wrap64 (1 + t133)) (wrap64 (1 + t136)) (wrap64 (x4_1 + t139))) 34 (0, 0)) (by (with_reducible repeat (first | refine zc ?_ _ | refine ze ?_ | refine zb ?_ _)); refine zr (cs := (za5 1 t130 (wrap64 (1 + t133)) (wrap64 (1 + t136)) (wrap64 (x4_1 + t139)))) ?_ 0 _ rfl; (with_reducible repeat (first | refine zc ?_ _ | refine ze ?_ | refine zb ?_ _)); exact BK142.out) NB142_0.out (by simp))) (zA_ (za (zaa zG54 hk (.inl rfl))) (zA_ (za (hb)) (za (hi))))); clear HO_3 BK142 HK HB HI0; obtain ⟨HO_3, BK142, HK, HB, HI0⟩ := n_; (try clear hb); (try clear hk); (try clear hi); obtain ⟨hcz59_0, hcz59_1, hcz59_2, hcz59_3, hcz59_4, hfz59_0, hfz59_1, hfz59_2, hfz59_3, hfz59_4⟩ := zB5 BK142.out) | ((with_reducible refine gate_builtin (b := .append) (xs := #[.tmp 87, .tmp 89]) rfl ?_); at_builtin; refine zas k34 w.heap.size rfl (.tmp 87) (.tmp 89) 23 34 (.agg #[(.int .i64 0), (.string ⟨#[]⟩), (.int .i64 0), (.int .i64 0), (.int .i64 0)]) 48 rfl Try.underlying23 info34 rfl zG70 (by omega) u3 x3_1 (⟨wrap64 (4 + t158), t130, (wrap64 (1 + t133)), t161, (wrap64 (x4_1 + t139))⟩ : S34) [.int .i64 (wrap64 (4 + t158)), .string t130, .int .i64 (wrap64 (1 + t133)), .int .i64 t161, .int .i64 (wrap64 (x4_1 + t139))] (fun k_ => k_ ≠ gb142) (fun _ => False) rfl (by first | (go_simp; done) | (go_simp; rfl)) ?aP (fun _ hk => hk.elim) ?aF ?aO (Below.refl _ _) ?aS ?aL ?_; (case aP => exact k34_mkM _ _ _ (⟨wrap64 (4 + t158), t130, (wrap64 (1 + t133)), t161, (wrap64 (x4_1 + t139))⟩ : S34)); (case aF => exact (fun k_ hk => Kd.freshB (g := gb142) (o := .cells (za5 (wrap64 (4 + t158)) t130 (wrap64 (1 + t133)) t161 (wrap64 (x4_1 + t139))) 34 (0, 0)) zK101 k_ hk)); (case aO => exact (by (with_reducible repeat (first | apply zj | apply zk | apply zl)); exact zn (zm (p := ⟨gb142, 3, none⟩) (zn HO_3.out (fun k_ hk => (⟨hk, hk⟩ : _ ∧ k_ ≠ gb142))) (fun _ hk => hk.2) (.int .i64 t161)) (fun _ hk => hk.1))); (case aS => exact zH79); (case aL => have := LMc54.out; omega); intro v165 w60 ho hb hg hat; rw [← Ny164.out] at ho; have n_ := zA_ (za (zam (g := gb142) (o := .cells (za5 (wrap64 (4 + t158)) t130 (wrap64 (1 + t133)) t161 (wrap64 (x4_1 + t139))) 34 (0, 0)) zK101 hg (Kd.R_away HO_3.out (fun _ hk => hk)))) (zA_ (za (IsS67.grown (show IsS67 w0 _ g s0_0 t162 t163 from by repeat (first | (with_reducible first | exact HI0.out | apply IsS67.alloc | apply IsS67.drewN | apply IsS67.drew | apply IsS67.set_1 | apply IsS67.set_2 | refine IsS67.far ?_ (IsS67.ne_blk HI0.out BK142.out zG70) _ | refine IsS67.far ?_ NB0_142.out _) | exact HI0.out)) hg (IsS67.own_ne HI0.out HO_3.out zG70))) (zA_ (za (zar zG55 HL.out hb)) (zA_ (za (zaa zG54 (zaq hg g) (zax HO_3.out))) (za (ho))))); clear BK142 HI0 HB HK HO_3; obtain ⟨BK142, HI0, HB, HK, HO166⟩ := n_; clear ho hb hg hat))
        go_roundg kj48
        case measure => have := HK1.out; have := HJ13.out; have := HJ48.out; omega
        case rel => exact ⟨(y164), (x4_1), (wrap64 (x5_1 - 1)), (t162), (t163), zG68, zG68, H', ⟨zH76⟩, ⟨by (with_reducible repeat (first | apply zj | apply zk | apply zl)); exact zn HO166.out (fun _ hk => trivial)⟩, ⟨zH17⟩, ⟨zH31⟩, ⟨zH33⟩⟩
       replace c51 := Bool.eq_false_iff.mpr c51
       subst c51
       have H1 : (if t143 = 7 then ((spec_l00Src_next.f s0_0 t144 t145 10).bind fun bt167 => ((spec_l00Src_pick.f s0_0 bt167.2.1 bt167.2.2 (([(⟨#[]⟩ : ByteArray), (⟨#[57]⟩ : ByteArray), (⟨#[109, 105, 108, 107]⟩ : ByteArray)] : List ByteArray))).bind fun bt173 => ((some (([0, 1, 1000000, 1000001] : List Int) : List Int)).bind fun y176 => ((spec_l00Src_next.f s0_0 bt173.2.1 bt173.2.2 4).bind fun bt179 => (if 0 ≤ bt179.1 then (if bt179.1 < (y176.length : Int) then ((some (([0, 1, 100000, 100001, (-1), 100000] : List Int) : List Int)).bind fun y183 => ((spec_l00Src_next.f s0_0 bt179.2.1 bt179.2.2 6).bind fun bt186 => (if 0 ≤ bt186.1 then (if bt186.1 < (y183.length : Int) then ((some (([(-1), 100000, 100001, x4_1] : List Int) : List Int)).bind fun y190 => ((spec_l00Src_next.f s0_0 bt186.2.1 bt186.2.2 4).bind fun bt193 => (if 0 ≤ bt193.1 then (if bt193.1 < (y190.length : Int) then (if x3_1.length < 2932031007402 then (spec_l00Src_stockActs.l0 kj48 (x3_1 ++ [(⟨wrap64 (bt167.1 - 1), bt173.1, rd y176 bt179.1, rd y183 bt186.1, rd y190 bt193.1⟩ : S34)]) x4_1 (wrap64 (x5_1 - 1)) s0_0 bt193.2.1 bt193.2.2) else (none)) else (none)) else (none)))) else (none)) else (none)))) else (none)) else (none)))))) else (if x3_1.length < 2932031007402 then (spec_l00Src_stockActs.l0 kj48 (x3_1 ++ [(⟨1, t130, (wrap64 (1 + t133)), (wrap64 (1 + t136)), (wrap64 (x4_1 + t139))⟩ : S34)]) x4_1 (wrap64 (x5_1 - 1)) s0_0 t144 t145) else (none))) = some (r1, r2, r3) := by rw [if_neg (show ¬ (false = true) by decide)] at H; exact H
       clear H
       have H := H1
       clear H1
       by_cases c61 : t143 = 7
       rotate_left
       ·rw [if_neg c61] at H
        have c61b0 : (t143 == 7) = false := beq_eq_false_iff_ne.mpr c61
        have c61b1 : (t143 != 7) = true := bne_iff_ne.mpr c61
        by_cases c104 : x3_1.length < 2932031007402
        rotate_left
        ·rw [if_neg c104] at H
         exact absurd H (by simp)
        rw [if_pos c104] at H
        have LMc104 := za c104
        clear c104
        obtain ⟨y200, hy200⟩ : ∃ y_ : List (S34), y_ = (x3_1 ++ [(⟨1, t130, (wrap64 (1 + t133)), (wrap64 (1 + t136)), (wrap64 (x4_1 + t139))⟩ : S34)]) := ⟨_, rfl⟩
        replace H : (spec_l00Src_stockActs.l0 kj48 y200 x4_1 (wrap64 (x5_1 - 1)) s0_0 t144 t145) = some (r1, r2, r3) := by first | (rw [hy200]; with_reducible exact H) | (have H2_ := (Option.bind_some _ _).symm.trans H; rw [hy200]; with_reducible exact H2_) | (have H2_ := (Option.bind_some _ _).symm.trans H; with_reducible exact H2_) | with_reducible exact H | (rw [hy200]; exact H) | exact H
        have Ny200 := za hy200
        clear hy200
        have H' := za H
        clear H
        have hnb105 := NB142_0.out
        have hnc105 := NB0_142.out
        obtain ⟨hcz106_0, hcz106_1, hcz106_2, hcz106_3, hcz106_4, hfz106_0, hfz106_1, hfz106_2, hfz106_3, hfz106_4⟩ := zB5 BK142.out
        go_wp2_with (first | ((with_reducible refine gate_builtin (b := .append) (xs := #[.tmp 87, .tmp 89]) rfl ?_); at_builtin; refine zas k34 w.heap.size rfl (.tmp 87) (.tmp 89) 23 34 (.agg #[(.int .i64 0), (.string ⟨#[]⟩), (.int .i64 0), (.int .i64 0), (.int .i64 0)]) 48 rfl Try.underlying23 info34 rfl zG70 (by omega) u3 x3_1 (⟨1, t130, (wrap64 (1 + t133)), (wrap64 (1 + t136)), (wrap64 (x4_1 + t139))⟩ : S34) [.int .i64 1, .string t130, .int .i64 (wrap64 (1 + t133)), .int .i64 (wrap64 (1 + t136)), .int .i64 (wrap64 (x4_1 + t139))] (fun k_ => k_ ≠ gb142) (fun _ => False) rfl rfl ?aP (fun _ hk => hk.elim) ?aF ?aO (Below.refl _ _) ?aS ?aL ?_; (case aP => exact k34_mkM _ _ _ (⟨1, t130, (wrap64 (1 + t133)), (wrap64 (1 + t136)), (wrap64 (x4_1 + t139))⟩ : S34)); (case aF => exact (fun k_ hk => Kd.freshB (g := gb142) (o := .cells (za5 1 t130 (wrap64 (1 + t133)) (wrap64 (1 + t136)) (wrap64 (x4_1 + t139))) 34 (0, 0)) zG59 k_ hk)); (case aO => exact zG67); (case aS => exact zH79); (case aL => have := LMc104.out; omega); intro v201 w107 ho hb hg hat; rw [← Ny200.out] at ho; have n_ := zA_ (za (zam (g := gb142) (o := .cells (za5 1 t130 (wrap64 (1 + t133)) (wrap64 (1 + t136)) (wrap64 (x4_1 + t139))) 34 (0, 0)) zG59 hg (Kd.R_away HO_3.out (fun _ hk => hk)))) (zA_ (za (IsS67.grown (show IsS67 w0 _ g s0_0 t144 t145 from by repeat (first | (with_reducible first | exact HI0.out | apply IsS67.alloc | apply IsS67.drewN | apply IsS67.drew | apply IsS67.set_1 | apply IsS67.set_2 | refine IsS67.far ?_ (IsS67.ne_blk HI0.out BK142.out zG70) _ | refine IsS67.far ?_ NB0_142.out _) | exact HI0.out)) hg (IsS67.own_ne HI0.out HO_3.out zG70))) (zA_ (za (zar zG55 HL.out hb)) (zA_ (za (zaa zG54 (zaq hg g) (zax HO_3.out))) (za (ho))))); clear BK142 HI0 HB HK HO_3; obtain ⟨BK142, HI0, HB, HK, HO202⟩ := n_; clear ho hb hg hat))
        go_roundg kj48
        case measure => have := HK1.out; have := HJ13.out; have := HJ48.out; omega
        case rel => exact ⟨(y200), (x4_1), (wrap64 (x5_1 - 1)), (t144), (t145), zG68, zG68, H', ⟨zH76⟩, ⟨by (with_reducible repeat (first | apply zj | apply zk | apply zl)); exact zn HO202.out (fun _ hk => trivial)⟩, ⟨zH17⟩, ⟨zH31⟩, ⟨zH33⟩⟩
       rw [if_pos c61] at H
       have c61b0 : (t143 == 7) = true := beq_iff_eq.mpr c61
       have c61b1 : (t143 != 7) = false := bne_eq_false_iff_eq.mpr c61
       clear c61
       replace H := Option.bind_eq_some_iff.mp H
       obtain ⟨⟨t167, t168, t169⟩, A620, H⟩ := H
       replace H : ((spec_l00Src_pick.f s0_0 t168 t169 (([(⟨#[]⟩ : ByteArray), (⟨#[57]⟩ : ByteArray), (⟨#[109, 105, 108, 107]⟩ : ByteArray)] : List ByteArray))).bind fun bt173 => ((some (([0, 1, 1000000, 1000001] : List Int) : List Int)).bind fun y176 => ((spec_l00Src_next.f s0_0 bt173.2.1 bt173.2.2 4).bind fun bt179 => (if 0 ≤ bt179.1 then (if bt179.1 < (y176.length : Int) then ((some (([0, 1, 100000, 100001, (-1), 100000] : List Int) : List Int)).bind fun y183 => ((spec_l00Src_next.f s0_0 bt179.2.1 bt179.2.2 6).bind fun bt186 => (if 0 ≤ bt186.1 then (if bt186.1 < (y183.length : Int) then ((some (([(-1), 100000, 100001, x4_1] : List Int) : List Int)).bind fun y190 => ((spec_l00Src_next.f s0_0 bt186.2.1 bt186.2.2 4).bind fun bt193 => (if 0 ≤ bt193.1 then (if bt193.1 < (y190.length : Int) then (if x3_1.length < 2932031007402 then (spec_l00Src_stockActs.l0 kj48 (x3_1 ++ [(⟨wrap64 (t167 - 1), bt173.1, rd y176 bt179.1, rd y183 bt186.1, rd y190 bt193.1⟩ : S34)]) x4_1 (wrap64 (x5_1 - 1)) s0_0 bt193.2.1 bt193.2.2) else (none)) else (none)) else (none)))) else (none)) else (none)))) else (none)) else (none))))) = some (r1, r2, r3) := H
       have A62 := za A620
       clear A620
       obtain ⟨y170, hy170⟩ : ∃ y_ : List ByteArray, y_ = (([(⟨#[]⟩ : ByteArray), (⟨#[57]⟩ : ByteArray), (⟨#[109, 105, 108, 107]⟩ : ByteArray)] : List ByteArray)) := ⟨_, rfl⟩
       replace H : ((spec_l00Src_pick.f s0_0 t168 t169 y170).bind fun bt173 => ((some (([0, 1, 1000000, 1000001] : List Int) : List Int)).bind fun y176 => ((spec_l00Src_next.f s0_0 bt173.2.1 bt173.2.2 4).bind fun bt179 => (if 0 ≤ bt179.1 then (if bt179.1 < (y176.length : Int) then ((some (([0, 1, 100000, 100001, (-1), 100000] : List Int) : List Int)).bind fun y183 => ((spec_l00Src_next.f s0_0 bt179.2.1 bt179.2.2 6).bind fun bt186 => (if 0 ≤ bt186.1 then (if bt186.1 < (y183.length : Int) then ((some (([(-1), 100000, 100001, x4_1] : List Int) : List Int)).bind fun y190 => ((spec_l00Src_next.f s0_0 bt186.2.1 bt186.2.2 4).bind fun bt193 => (if 0 ≤ bt193.1 then (if bt193.1 < (y190.length : Int) then (if x3_1.length < 2932031007402 then (spec_l00Src_stockActs.l0 kj48 (x3_1 ++ [(⟨wrap64 (t167 - 1), bt173.1, rd y176 bt179.1, rd y183 bt186.1, rd y190 bt193.1⟩ : S34)]) x4_1 (wrap64 (x5_1 - 1)) s0_0 bt193.2.1 bt193.2.2) else (none)) else (none)) else (none)))) else (none)) else (none)))) else (none)) else (none))))) = some (r1, r2, r3) := by first | (rw [hy170]; with_reducible exact H) | (have H2_ := (Option.bind_some _ _).symm.trans H; rw [hy170]; with_reducible exact H2_) | (have H2_ := (Option.bind_some _ _).symm.trans H; with_reducible exact H2_) | with_reducible exact H | (rw [hy170]; exact H) | exact H
       have Ny170 := za hy170
       clear hy170
       replace H := Option.bind_eq_some_iff.mp H
       obtain ⟨⟨t173, t174, t175⟩, A630, H⟩ := H
       replace H : ((some (([0, 1, 1000000, 1000001] : List Int) : List Int)).bind fun y176 => ((spec_l00Src_next.f s0_0 t174 t175 4).bind fun bt179 => (if 0 ≤ bt179.1 then (if bt179.1 < (y176.length : Int) then ((some (([0, 1, 100000, 100001, (-1), 100000] : List Int) : List Int)).bind fun y183 => ((spec_l00Src_next.f s0_0 bt179.2.1 bt179.2.2 6).bind fun bt186 => (if 0 ≤ bt186.1 then (if bt186.1 < (y183.length : Int) then ((some (([(-1), 100000, 100001, x4_1] : List Int) : List Int)).bind fun y190 => ((spec_l00Src_next.f s0_0 bt186.2.1 bt186.2.2 4).bind fun bt193 => (if 0 ≤ bt193.1 then (if bt193.1 < (y190.length : Int) then (if x3_1.length < 2932031007402 then (spec_l00Src_stockActs.l0 kj48 (x3_1 ++ [(⟨wrap64 (t167 - 1), t173, rd y176 bt179.1, rd y183 bt186.1, rd y190 bt193.1⟩ : S34)]) x4_1 (wrap64 (x5_1 - 1)) s0_0 bt193.2.1 bt193.2.2) else (none)) else (none)) else (none)))) else (none)) else (none)))) else (none)) else (none)))) = some (r1, r2, r3) := H
       have A63 := za A630
       clear A630
       obtain ⟨y176, hy176⟩ : ∃ y_ : List Int, y_ = (([0, 1, 1000000, 1000001] : List Int)) := ⟨_, rfl⟩
       replace H : ((spec_l00Src_next.f s0_0 t174 t175 4).bind fun bt179 => (if 0 ≤ bt179.1 then (if bt179.1 < (y176.length : Int) then ((some (([0, 1, 100000, 100001, (-1), 100000] : List Int) : List Int)).bind fun y183 => ((spec_l00Src_next.f s0_0 bt179.2.1 bt179.2.2 6).bind fun bt186 => (if 0 ≤ bt186.1 then (if bt186.1 < (y183.length : Int) then ((some (([(-1), 100000, 100001, x4_1] : List Int) : List Int)).bind fun y190 => ((spec_l00Src_next.f s0_0 bt186.2.1 bt186.2.2 4).bind fun bt193 => (if 0 ≤ bt193.1 then (if bt193.1 < (y190.length : Int) then (if x3_1.length < 2932031007402 then (spec_l00Src_stockActs.l0 kj48 (x3_1 ++ [(⟨wrap64 (t167 - 1), t173, rd y176 bt179.1, rd y183 bt186.1, rd y190 bt193.1⟩ : S34)]) x4_1 (wrap64 (x5_1 - 1)) s0_0 bt193.2.1 bt193.2.2) else (none)) else (none)) else (none)))) else (none)) else (none)))) else (none)) else (none))) = some (r1, r2, r3) := by first | (rw [hy176]; with_reducible exact H) | (have H2_ := (Option.bind_some _ _).symm.trans H; rw [hy176]; with_reducible exact H2_) | (have H2_ := (Option.bind_some _ _).symm.trans H; with_reducible exact H2_) | with_reducible exact H | (rw [hy176]; exact H) | exact H
       have Ny176 := za hy176
       clear hy176
       replace H := Option.bind_eq_some_iff.mp H
       obtain ⟨⟨t179, t180, t181⟩, A640, H⟩ := H
       replace H : (if 0 ≤ t179 then (if t179 < (y176.length : Int) then ((some (([0, 1, 100000, 100001, (-1), 100000] : List Int) : List Int)).bind fun y183 => ((spec_l00Src_next.f s0_0 t180 t181 6).bind fun bt186 => (if 0 ≤ bt186.1 then (if bt186.1 < (y183.length : Int) then ((some (([(-1), 100000, 100001, x4_1] : List Int) : List Int)).bind fun y190 => ((spec_l00Src_next.f s0_0 bt186.2.1 bt186.2.2 4).bind fun bt193 => (if 0 ≤ bt193.1 then (if bt193.1 < (y190.length : Int) then (if x3_1.length < 2932031007402 then (spec_l00Src_stockActs.l0 kj48 (x3_1 ++ [(⟨wrap64 (t167 - 1), t173, rd y176 t179, rd y183 bt186.1, rd y190 bt193.1⟩ : S34)]) x4_1 (wrap64 (x5_1 - 1)) s0_0 bt193.2.1 bt193.2.2) else (none)) else (none)) else (none)))) else (none)) else (none)))) else (none)) else (none)) = some (r1, r2, r3) := H
       have A64 := za A640
       clear A640
       by_cases c65 : 0 ≤ t179
       rotate_left
       ·rw [if_neg c65] at H
        exact absurd H (by simp)
       rw [if_pos c65] at H
       have c65b0 := decide_eq_true c65
       clear c65
       by_cases c66 : t179 < (y176.length : Int)
       rotate_left
       ·rw [if_neg c66] at H
        exact absurd H (by simp)
       rw [if_pos c66] at H
       have c66b0 := decide_eq_true c66
       clear c66
       obtain ⟨y183, hy183⟩ : ∃ y_ : List Int, y_ = (([0, 1, 100000, 100001, (-1), 100000] : List Int)) := ⟨_, rfl⟩
       replace H : ((spec_l00Src_next.f s0_0 t180 t181 6).bind fun bt186 => (if 0 ≤ bt186.1 then (if bt186.1 < (y183.length : Int) then ((some (([(-1), 100000, 100001, x4_1] : List Int) : List Int)).bind fun y190 => ((spec_l00Src_next.f s0_0 bt186.2.1 bt186.2.2 4).bind fun bt193 => (if 0 ≤ bt193.1 then (if bt193.1 < (y190.length : Int) then (if x3_1.length < 2932031007402 then (spec_l00Src_stockActs.l0 kj48 (x3_1 ++ [(⟨wrap64 (t167 - 1), t173, rd y176 t179, rd y183 bt186.1, rd y190 bt193.1⟩ : S34)]) x4_1 (wrap64 (x5_1 - 1)) s0_0 bt193.2.1 bt193.2.2) else (none)) else (none)) else (none)))) else (none)) else (none))) = some (r1, r2, r3) := by first | (rw [hy183]; with_reducible exact H) | (have H2_ := (Option.bind_some _ _).symm.trans H; rw [hy183]; with_reducible exact H2_) | (have H2_ := (Option.bind_some _ _).symm.trans H; with_reducible exact H2_) | with_reducible exact H | (rw [hy183]; exact H) | exact H
       have Ny183 := za hy183
       clear hy183
       replace H := Option.bind_eq_some_iff.mp H
       obtain ⟨⟨t186, t187, t188⟩, A670, H⟩ := H
       replace H : (if 0 ≤ t186 then (if t186 < (y183.length : Int) then ((some (([(-1), 100000, 100001, x4_1] : List Int) : List Int)).bind fun y190 => ((spec_l00Src_next.f s0_0 t187 t188 4).bind fun bt193 => (if 0 ≤ bt193.1 then (if bt193.1 < (y190.length : Int) then (if x3_1.length < 2932031007402 then (spec_l00Src_stockActs.l0 kj48 (x3_1 ++ [(⟨wrap64 (t167 - 1), t173, rd y176 t179, rd y183 t186, rd y190 bt193.1⟩ : S34)]) x4_1 (wrap64 (x5_1 - 1)) s0_0 bt193.2.1 bt193.2.2) else (none)) else (none)) else (none)))) else (none)) else (none)) = some (r1, r2, r3) := H
       have A67 := za A670
       clear A670
       by_cases c68 : 0 ≤ t186
       rotate_left
       ·rw [if_neg c68] at H
        exact absurd H (by simp)
       rw [if_pos c68] at H
       have c68b0 := decide_eq_true c68
       clear c68
       by_cases c69 : t186 < (y183.length : Int)
       rotate_left
       ·rw [if_neg c69] at H
        exact absurd H (by simp)
       rw [if_pos c69] at H
       have c69b0 := decide_eq_true c69
       clear c69
       obtain ⟨y190, hy190⟩ : ∃ y_ : List Int, y_ = (([(-1), 100000, 100001, x4_1] : List Int)) := ⟨_, rfl⟩
       replace H : ((spec_l00Src_next.f s0_0 t187 t188 4).bind fun bt193 => (if 0 ≤ bt193.1 then (if bt193.1 < (y190.length : Int) then (if x3_1.length < 2932031007402 then (spec_l00Src_stockActs.l0 kj48 (x3_1 ++ [(⟨wrap64 (t167 - 1), t173, rd y176 t179, rd y183 t186, rd y190 bt193.1⟩ : S34)]) x4_1 (wrap64 (x5_1 - 1)) s0_0 bt193.2.1 bt193.2.2) else (none)) else (none)) else (none))) = some (r1, r2, r3) := by first | (rw [hy190]; with_reducible exact H) | (have H2_ := (Option.bind_some _ _).symm.trans H; rw [hy190]; with_reducible exact H2_) | (have H2_ := (Option.bind_some _ _).symm.trans H; with_reducible exact H2_) | with_reducible exact H | (rw [hy190]; exact H) | exact H
       have Ny190 := za hy190
       clear hy190
       replace H := Option.bind_eq_some_iff.mp H
       obtain ⟨⟨t193, t194, t195⟩, A700, H⟩ := H
       replace H : (if 0 ≤ t193 then (if t193 < (y190.length : Int) then (if x3_1.length < 2932031007402 then (spec_l00Src_stockActs.l0 kj48 (x3_1 ++ [(⟨wrap64 (t167 - 1), t173, rd y176 t179, rd y183 t186, rd y190 t193⟩ : S34)]) x4_1 (wrap64 (x5_1 - 1)) s0_0 t194 t195) else (none)) else (none)) else (none)) = some (r1, r2, r3) := H
       have A70 := za A700
       clear A700
       by_cases c71 : 0 ≤ t193
       rotate_left
       ·rw [if_neg c71] at H
        exact absurd H (by simp)
       rw [if_pos c71] at H
       have c71b0 := decide_eq_true c71
       clear c71
       by_cases c72 : t193 < (y190.length : Int)
       rotate_left
       ·rw [if_neg c72] at H
        exact absurd H (by simp)
       rw [if_pos c72] at H
       have c72b0 := decide_eq_true c72
       clear c72
       by_cases c73 : x3_1.length < 2932031007402
       rotate_left
       ·rw [if_neg c73] at H
        exact absurd H (by simp)
       rw [if_pos c73] at H
       have LMc73 := za c73
       clear c73
       obtain ⟨y197, hy197⟩ : ∃ y_ : List (S34), y_ = (x3_1 ++ [(⟨wrap64 (t167 - 1), t173, rd y176 t179, rd y183 t186, rd y190 t193⟩ : S34)]) := ⟨_, rfl⟩
       replace H : (spec_l00Src_stockActs.l0 kj48 y197 x4_1 (wrap64 (x5_1 - 1)) s0_0 t194 t195) = some (r1, r2, r3) := by first | (rw [hy197]; with_reducible exact H) | (have H2_ := (Option.bind_some _ _).symm.trans H; rw [hy197]; with_reducible exact H2_) | (have H2_ := (Option.bind_some _ _).symm.trans H; with_reducible exact H2_) | with_reducible exact H | (rw [hy197]; exact H) | exact H
       have Ny197 := za hy197
       clear hy197
       have H' := za H
       clear H
       try go_wp2
       have pi182 : (0 ≤ (t179 : Int)) = True := eq_true zO
       have qi182 : (t179 < (y176.length : Int)) = True := eq_true zO
       have pi189 : (0 ≤ (t186 : Int)) = True := eq_true zO
       have qi189 : (t186 < (y183.length : Int)) = True := eq_true zO
       have pi196 : (0 ≤ (t193 : Int)) = True := eq_true zO
       have qi196 : (t193 < (y190.length : Int)) = True := eq_true zO
       obtain ⟨n0_, n1_, n2_, n3_, n4_⟩ := zD5 (zl HO_3.out) (ze BK142.out) (IsS67.drew HI0.out) (keep_drew HK.out) (zh HB.out)
       clear HO_3 BK142 HI0 HK HB
       have HO_3 := n0_
       have BK142 := n1_
       have HI0 := n2_
       have HK := n3_
       have HB := n4_
       clear n0_ n1_ n2_ n3_ n4_
       refine start_ (n := 24) (S := fun w' => True) (ds := []) #[false, false, false, false, false, false, false, false, false, false, false, false, false, false, false, false, false, false, false, false, false, false, false, false] zG69 rfl rfl trivial (fun hHeld => ?_); refine with_tabW spec_l00Src_stockActs.tab21 spec_l00Src_stockActs.bits21 (fun HT_ HW_ => ?_)
       generalize wc.drew = w74 at HO_3 BK142 HI0 HK HB hHeld ⊢
       refine zP 0 64 #[true, false, false, false, false, false, false, false, false, false, false, false, false, false, false, false, false, false, false, false, false, false, false, false] HT_ ?_
       refine zP 3 67 #[true, false, false, true, false, false, false, false, false, false, false, false, false, false, false, false, false, false, false, false, false, false, false, false] HT_ ?_
       refine zP 7 71 #[true, false, false, true, false, false, false, true, false, false, false, false, false, false, false, false, false, false, false, false, false, false, false, false] HT_ ?_
       refine zP 12 76 #[true, false, false, true, false, false, false, true, false, false, false, false, true, false, false, false, false, false, false, false, false, false, false, false] HT_ ?_
       refine zP 16 80 #[true, false, false, true, false, false, false, true, false, false, false, false, true, false, false, false, true, false, false, false, false, false, false, false] HT_ ?_
       refine zP 18 82 #[true, false, false, true, false, false, false, true, false, false, false, false, true, false, false, false, true, false, true, false, false, false, false, false] HT_ ?_
       refine inv_at [1, 2, 4, 5, 6, 8, 9, 10, 11, 13, 14, 15, 17, 19, 20, 21, 22, 23] (fun a0_ b a w' => ∃ (v171 : Value) (v177 : Value) (adz_v177 : Addr) (v184 : Value) (adz_v184 : Addr) (v191 : Value) (adz_v191 : Addr) (m9_ : Value) (m14_ : Value) (m20_ : Value), a = putSel a0_ b [(1, 65, .int .i64 t167), (2, 66, .int .i64 (wrap64 (t167 - 1))), (4, 68, v171), (5, 69, .string t173), (6, 70, v177), (8, 72, .int .i64 t179), (9, 73, m9_), (10, 74, .int .i64 (rd y176 t179)), (11, 75, v184), (13, 77, .int .i64 t186), (14, 78, m14_), (15, 79, .int .i64 (rd y183 t186)), (17, 81, v191), (19, 83, .int .i64 t193), (20, 84, m20_), (21, 85, .int .i64 (rd y190 t193)), (22, 86, .agg (za5 (wrap64 (t167 - 1)) t173 (rd y176 t179) (rd y183 t186) (rd y190 t193)))] ∧ (Kd.R k34 34 w' w.heap.size (fun k_ => k_ ≠ gb142) u3 x3_1) ∧ (b 23 = false → w'.heap[gb142]? = some (.cells (za5 1 t130 (wrap64 (1 + t133)) (wrap64 (1 + t136)) (wrap64 (x4_1 + t139))) 34 (0, 0))) ∧ (b 1 = false → IsS67 w0 w' g s0_0 t144 t145) ∧ (KeepBut w w' g none) ∧ (Below w0.heap.size w0 w') ∧ (b 1 = true → b 5 = false → IsS67 w0 w' g s0_0 t168 t169) ∧ (b 4 = true → Kd.R Kd.string 9 w' w.heap.size (fun _ => True) v171 y170) ∧ (b 5 = true → b 8 = false → IsS67 w0 w' g s0_0 t174 t175) ∧ (b 6 = true → Kd.R (Kd.int .i64) 3 w' w.heap.size (fun _ => True) v177 y176) ∧ (b 6 = true → ∃ c_, (v177 : Value) = .slice (some adz_v177) y176.length c_) ∧ (b 8 = true → b 13 = false → IsS67 w0 w' g s0_0 t180 t181) ∧ (b 11 = true → Kd.R (Kd.int .i64) 3 w' w.heap.size (fun _ => True) v184 y183) ∧ (b 11 = true → ∃ c_, (v184 : Value) = .slice (some adz_v184) y183.length c_) ∧ (b 13 = true → b 19 = false → IsS67 w0 w' g s0_0 t187 t188) ∧ (b 17 = true → Kd.R (Kd.int .i64) 3 w' w.heap.size (fun _ => True) v191 y190) ∧ (b 17 = true → ∃ c_, (v191 : Value) = .slice (some adz_v191) y190.length c_) ∧ (b 19 = true → IsS67 w0 w' g s0_0 t194 t195) ∧ (b 23 = true → w'.heap[gb142]? = some (.cells (za5 (wrap64 (t167 - 1)) t173 (rd y176 t179) (rd y183 t186) (rd y190 t193)) 34 (0, 0))) ∧ (b 9 = true → (m9_ : Value) = .pointer (some (adz_v177.add (t179).toNat))) ∧ (b 14 = true → (m14_ : Value) = .pointer (some (adz_v184.add (t186).toNat))) ∧ (b 20 = true → (m20_ : Value) = .pointer (some (adz_v191.add (t193).toNat)))) HT_.out HW_.out zG69 zG69 ?_ ?_ ?_
       ·exact ⟨.bool false, .bool false, ⟨0, 0, none⟩, .bool false, ⟨0, 0, none⟩, .bool false, ⟨0, 0, none⟩, .bool false, .bool false, .bool false, by simp only [putSel, Bool.false_eq_true, if_false], HO_3.out, fun _ => BK142.out, fun _ => HI0.out, HK.out, HB.out, fun h_ => absurd h_ zG70, fun h_ => absurd h_ zG70, fun h_ => absurd h_ zG70, fun h_ => absurd h_ zG70, fun h_ => absurd h_ zG70, fun h_ => absurd h_ zG70, fun h_ => absurd h_ zG70, fun h_ => absurd h_ zG70, fun h_ => absurd h_ zG70, fun h_ => absurd h_ zG70, fun h_ => absurd h_ zG70, fun h_ => absurd h_ zG70, fun h_ => absurd h_ zG70, fun h_ => absurd h_ zG70, fun h_ => absurd h_ zG70, fun h_ => absurd h_ zG70⟩
       ·skip
        clear BK142 HB HI0 HK HO_3
        refine steps_cons ?_ ?_
        ·rintro b a w' ⟨v171, v177, adz_v177, v184, adz_v184, v191, adz_v191, m9_, m14_, m20_, ha, Q_HO_3, Q_BK142, Q_HI0, Q_HK, Q_HB, Q_HI0_e1, Q_HO172, Q_HI0_e5, Q_HO178, Q_HA_HO178, Q_HI0_e8, Q_HO185, Q_HA_HO185, Q_HI0_e13, Q_HO192, Q_HA_HO192, Q_HI0_e19, Q_BK142_e23, Q_X9_, Q_X14_, Q_X20_⟩ hb_ hon hoff
         refine ⟨_, rfl, fun K hK => ?_⟩
         have e64 : a.tmps[64]? = some (.pointer (some ⟨g, 0, none⟩)) := by rw [ha]; exact (putSel_off rfl).trans rfl
         replace ha := za ha
         obtain ⟨HO_3, BK142, HI0, HK, HB⟩ := zD5 Q_HO_3 (Q_BK142 (hoff 23 zG69)) (Q_HI0 hb_) Q_HK Q_HB
         refine goes_ Try.func34 zG69 rfl #[.pointer (some ⟨g, 0, none⟩), .int .i64 10] (by rfl) rfl rfl (by first | (simp only [List.map_toArray, List.map_cons, List.map_nil, Act.eval, Array.getD_eq_getD_getElem?, Option.getD_some, e64]; done) | (simp only [List.map_toArray, List.map_cons, List.map_nil, Act.eval, Array.getD_eq_getD_getElem?, Option.getD_some, e64]; rfl)) ?_
         with_reducible refine (spec_l00Src_next.calls g s0_0 t144 t145 10 t167 t168 t169 w0 _ ?side1 ?side2 A62.out).mono ?_
         (case side1 => exact zH18)
         (case side2 => exact zH34)
         rintro e w75 ⟨rfl, hi, hb, hk⟩
         refine ⟨_, rfl, ?_⟩
         obtain ⟨n0_, n1_, n2_, n3_, n4_⟩ := zD5 (zn (zw (IsS67.apart (show IsS67 w0 _ g s0_0 t144 t145 from by repeat (first | (with_reducible first | exact HI0.out | apply IsS67.alloc | apply IsS67.drewN | apply IsS67.drew | apply IsS67.set_1 | apply IsS67.set_2 | refine IsS67.far ?_ (IsS67.ne_blk HI0.out BK142.out zG70) _ | refine IsS67.far ?_ NB0_142.out _) | exact HI0.out)) zG67 zG70) hk (fun _ h => h.2)) (fun _ h => h.1)) (zal hk (g' := gb142) (o := .cells (za5 1 t130 (wrap64 (1 + t133)) (wrap64 (1 + t136)) (wrap64 (x4_1 + t139))) 34 (0, 0)) zG59 NB142_0.out (by simp)) (zaa zG54 hk (.inl rfl)) (hb) (hi)
         have z_HO172 := fun (h0_ : b 4 = true) => (show Kd.R Kd.string 9 w75 w.heap.size (fun _ => True) v171 y170 from by first | exact (zn (zw (IsS67.apart (show IsS67 w0 _ g s0_0 t144 t145 from by repeat (first | (with_reducible first | exact HI0.out | apply IsS67.alloc | apply IsS67.drewN | apply IsS67.drew | apply IsS67.set_1 | apply IsS67.set_2 | refine IsS67.far ?_ (IsS67.ne_blk HI0.out BK142.out zG70) _ | refine IsS67.far ?_ NB0_142.out _) | exact HI0.out)) zK145 zG70) hk (fun _ h => h.2)) (fun _ h => h.1)) | exact zn (zn (zw (IsS67.apart (show IsS67 w0 _ g s0_0 t144 t145 from by repeat (first | (with_reducible first | exact HI0.out | apply IsS67.alloc | apply IsS67.drewN | apply IsS67.drew | apply IsS67.set_1 | apply IsS67.set_2 | refine IsS67.far ?_ (IsS67.ne_blk HI0.out BK142.out zG70) _ | refine IsS67.far ?_ NB0_142.out _) | exact HI0.out)) zK145 zG70) hk (fun _ h => h.2)) (fun _ h => h.1)) (fun _ h_ => by first | trivial | exact h_ | exact h_.1))
         have z_HO178 := fun (h0_ : b 6 = true) => (show Kd.R (Kd.int .i64) 3 w75 w.heap.size (fun _ => True) v177 y176 from by first | exact (zn (zw (IsS67.apart (show IsS67 w0 _ g s0_0 t144 t145 from by repeat (first | (with_reducible first | exact HI0.out | apply IsS67.alloc | apply IsS67.drewN | apply IsS67.drew | apply IsS67.set_1 | apply IsS67.set_2 | refine IsS67.far ?_ (IsS67.ne_blk HI0.out BK142.out zG70) _ | refine IsS67.far ?_ NB0_142.out _) | exact HI0.out)) zG64 zG70) hk (fun _ h => h.2)) (fun _ h => h.1)) | exact zn (zn (zw (IsS67.apart (show IsS67 w0 _ g s0_0 t144 t145 from by repeat (first | (with_reducible first | exact HI0.out | apply IsS67.alloc | apply IsS67.drewN | apply IsS67.drew | apply IsS67.set_1 | apply IsS67.set_2 | refine IsS67.far ?_ (IsS67.ne_blk HI0.out BK142.out zG70) _ | refine IsS67.far ?_ NB0_142.out _) | exact HI0.out)) zG64 zG70) hk (fun _ h => h.2)) (fun _ h => h.1)) (fun _ h_ => by first | trivial | exact h_ | exact h_.1))
         have z_HO185 := fun (h0_ : b 11 = true) => (show Kd.R (Kd.int .i64) 3 w75 w.heap.size (fun _ => True) v184 y183 from by first | exact (zn (zw (IsS67.apart (show IsS67 w0 _ g s0_0 t144 t145 from by repeat (first | (with_reducible first | exact HI0.out | apply IsS67.alloc | apply IsS67.drewN | apply IsS67.drew | apply IsS67.set_1 | apply IsS67.set_2 | refine IsS67.far ?_ (IsS67.ne_blk HI0.out BK142.out zG70) _ | refine IsS67.far ?_ NB0_142.out _) | exact HI0.out)) zG65 zG70) hk (fun _ h => h.2)) (fun _ h => h.1)) | exact zn (zn (zw (IsS67.apart (show IsS67 w0 _ g s0_0 t144 t145 from by repeat (first | (with_reducible first | exact HI0.out | apply IsS67.alloc | apply IsS67.drewN | apply IsS67.drew | apply IsS67.set_1 | apply IsS67.set_2 | refine IsS67.far ?_ (IsS67.ne_blk HI0.out BK142.out zG70) _ | refine IsS67.far ?_ NB0_142.out _) | exact HI0.out)) zG65 zG70) hk (fun _ h => h.2)) (fun _ h => h.1)) (fun _ h_ => by first | trivial | exact h_ | exact h_.1))
         have z_HO192 := fun (h0_ : b 17 = true) => (show Kd.R (Kd.int .i64) 3 w75 w.heap.size (fun _ => True) v191 y190 from by first | exact (zn (zw (IsS67.apart (show IsS67 w0 _ g s0_0 t144 t145 from by repeat (first | (with_reducible first | exact HI0.out | apply IsS67.alloc | apply IsS67.drewN | apply IsS67.drew | apply IsS67.set_1 | apply IsS67.set_2 | refine IsS67.far ?_ (IsS67.ne_blk HI0.out BK142.out zG70) _ | refine IsS67.far ?_ NB0_142.out _) | exact HI0.out)) zG66 zG70) hk (fun _ h => h.2)) (fun _ h => h.1)) | exact zn (zn (zw (IsS67.apart (show IsS67 w0 _ g s0_0 t144 t145 from by repeat (first | (with_reducible first | exact HI0.out | apply IsS67.alloc | apply IsS67.drewN | apply IsS67.drew | apply IsS67.set_1 | apply IsS67.set_2 | refine IsS67.far ?_ (IsS67.ne_blk HI0.out BK142.out zG70) _ | refine IsS67.far ?_ NB0_142.out _) | exact HI0.out)) zG66 zG70) hk (fun _ h => h.2)) (fun _ h => h.1)) (fun _ h_ => by first | trivial | exact h_ | exact h_.1))
         clear HO_3
         clear BK142
         clear HK
         clear HB
         clear HI0
         have HO_3 := n0_
         have BK142 := n1_
         have HK := n2_
         have HB := n3_
         have HI0 := n4_
         clear n0_ n1_ n2_ n3_ n4_
         (try clear hb)
         (try clear hb2)
         (try clear hk)
         (try clear hi)
         refine hK.out _ _ ⟨v171, v177, adz_v177, v184, adz_v184, v191, adz_v191, m9_, m14_, m20_, (by rw [ha.out]; exact putSel_upk 0 hb_ rfl rfl rfl), zG67, fun _ => zG59, fun h0_ => absurd ((up_self b 1).symm.trans h0_) zG70, zG54, zG55, fun _ _ => zK105, z_HO172, fun h0_ _ => absurd ((hoff 5 zG69).symm.trans h0_) zG70, z_HO178, Q_HA_HO178, fun h0_ _ => absurd ((hoff 8 zG69).symm.trans h0_) zG70, z_HO185, Q_HA_HO185, fun h0_ _ => absurd ((hoff 13 zG69).symm.trans h0_) zG70, z_HO192, Q_HA_HO192, fun h0_ => absurd ((hoff 19 zG69).symm.trans h0_) zG70, fun h0_ => absurd ((hoff 23 zG69).symm.trans h0_) zG70, fun h0_ => absurd ((hoff 9 zG69).symm.trans h0_) zG70, fun h0_ => absurd ((hoff 14 zG69).symm.trans h0_) zG70, fun h0_ => absurd ((hoff 20 zG69).symm.trans h0_) zG70⟩
        refine steps_cons ?_ ?_
        ·rintro b a w' ⟨v171, v177, adz_v177, v184, adz_v184, v191, adz_v191, m9_, m14_, m20_, ha, Q_HO_3, Q_BK142, Q_HI0, Q_HK, Q_HB, Q_HI0_e1, Q_HO172, Q_HI0_e5, Q_HO178, Q_HA_HO178, Q_HI0_e8, Q_HO185, Q_HA_HO185, Q_HI0_e13, Q_HO192, Q_HA_HO192, Q_HI0_e19, Q_BK142_e23, Q_X9_, Q_X14_, Q_X20_⟩ hb_ hon hoff
         refine ⟨_, rfl, fun K hK => ?_⟩
         have e65 : a.tmps[65]? = some (.int .i64 t167) := by rw [ha]; exact putSel_on (e := (1, 65, .int .i64 t167)) 0 rfl rfl (hon 1 zG69) rfl
         replace ha := za ha
         obtain ⟨HO_3, BK142, HK, HB⟩ := zD4 Q_HO_3 (Q_BK142 (hoff 23 zG69)) Q_HK Q_HB
         refine value_ (w1 := w') (v := .int .i64 (wrap64 (t167 - 1))) (by rfl) rfl ?_ ?_
         ·go_simp
          (try simp only [i64_w])
          try rfl
         refine hK.out _ _ ⟨v171, v177, adz_v177, v184, adz_v184, v191, adz_v191, m9_, m14_, m20_, (by rw [ha.out]; exact putSel_upk 1 hb_ rfl rfl rfl), Q_HO_3, Q_BK142, fun h0_ => absurd ((hon 1 zG69).symm.trans h0_) zG70, Q_HK, Q_HB, Q_HI0_e1, Q_HO172, Q_HI0_e5, Q_HO178, Q_HA_HO178, Q_HI0_e8, Q_HO185, Q_HA_HO185, Q_HI0_e13, Q_HO192, Q_HA_HO192, Q_HI0_e19, fun h0_ => absurd ((hoff 23 zG69).symm.trans h0_) zG70, Q_X9_, Q_X14_, Q_X20_⟩
        refine steps_cons ?_ ?_
        ·rintro b a w' ⟨v171, v177, adz_v177, v184, adz_v184, v191, adz_v191, m9_, m14_, m20_, ha, Q_HO_3, Q_BK142, Q_HI0, Q_HK, Q_HB, Q_HI0_e1, Q_HO172, Q_HI0_e5, Q_HO178, Q_HA_HO178, Q_HI0_e8, Q_HO185, Q_HA_HO185, Q_HI0_e13, Q_HO192, Q_HA_HO192, Q_HI0_e19, Q_BK142_e23, Q_X9_, Q_X14_, Q_X20_⟩ hb_ hon hoff
         refine ⟨_, rfl, fun K hK => ?_⟩
         replace ha := za ha
         obtain ⟨HO_3, BK142, HK, HB⟩ := zD4 Q_HO_3 (Q_BK142 (hoff 23 zG69)) Q_HK Q_HB
         refine zaw Kd.string _ 9 ?hg (N := 68) ?hd (xs := ([(⟨#[]⟩ : ByteArray), (⟨#[57]⟩ : ByteArray), (⟨#[109, 105, 108, 107]⟩ : ByteArray)] : List ByteArray)) (inner := [.string (⟨#[]⟩ : ByteArray), .string (⟨#[57]⟩ : ByteArray), .string (⟨#[109, 105, 108, 107]⟩ : ByteArray)]) (ok := fun _ => True) (okp := fun _ => True) ?hr ?hp (fun _ hk => hk) trivial (Below.refl _ _) (Nat.le_refl _) (by simp) ?_; (case hd => rfl); (case hg => rfl); (case hr => exact zH81); (case hp => exact (Reps.one (show Kd.M Kd.string _ _ _ (⟨#[]⟩ : ByteArray) [.string (⟨#[]⟩ : ByteArray)] from rfl) (Reps.one (show Kd.M Kd.string _ _ _ (⟨#[57]⟩ : ByteArray) [.string (⟨#[57]⟩ : ByteArray)] from rfl) (Reps.one (show Kd.M Kd.string _ _ _ (⟨#[109, 105, 108, 107]⟩ : ByteArray) [.string (⟨#[109, 105, 108, 107]⟩ : ByteArray)] from rfl) (Reps.none _ _)))))
         intro v171 w75 ho76 hb hg_ hnew_
         clear hg_ hnew_
         (first | rw [← Ny170.out] at ho76 | (simp only [Int.reduceToNat] at ho76; rw [← Ny170.out] at ho76))
         obtain ⟨n0_, n1_, n2_, n4_, n5_⟩ := zD5 (zt zG67 hb) (zah ho76 (keep_size (w := w) (g := g) (row := none) zG54)) (zq (g := gb142) (o := .cells (za5 1 t130 (wrap64 (1 + t133)) (wrap64 (1 + t136)) (wrap64 (x4_1 + t139))) 34 (0, 0)) zG59 hb) (zaa zG54 (zak hb g none) (.inl rfl)) (zu zK129 hb)
         have z_HI0 := fun (h0_ : b 1 = false) => (show IsS67 w0 w75 g s0_0 t144 t145 from by first | exact (IsS67.below zK114 hb))
         have z_HI0_e1 := fun (h0_ : b 1 = true) (h1_ : b 5 = false) => (show IsS67 w0 w75 g s0_0 t168 t169 from by first | exact (IsS67.below zK109 hb))
         have z_HO178 := fun (h0_ : b 6 = true) => (show Kd.R (Kd.int .i64) 3 w75 w.heap.size (fun _ => True) v177 y176 from by first | exact (zt zG64 hb) | exact zn (zt zG64 hb) (fun _ h_ => by first | trivial | exact h_ | exact h_.1))
         have z_HO185 := fun (h0_ : b 11 = true) => (show Kd.R (Kd.int .i64) 3 w75 w.heap.size (fun _ => True) v184 y183 from by first | exact (zt zG65 hb) | exact zn (zt zG65 hb) (fun _ h_ => by first | trivial | exact h_ | exact h_.1))
         have z_HO192 := fun (h0_ : b 17 = true) => (show Kd.R (Kd.int .i64) 3 w75 w.heap.size (fun _ => True) v191 y190 from by first | exact (zt zG66 hb) | exact zn (zt zG66 hb) (fun _ h_ => by first | trivial | exact h_ | exact h_.1))
         clear HO_3
         clear BK142
         clear HK
         clear HB
         have HO_3 := n0_
         have HO172 := n1_
         have BK142 := n2_
         have HK := n4_
         have HB := n5_
         clear n0_ n1_ n2_ n4_ n5_
         clear hb ho76
         refine hK.out _ _ ⟨v171, v177, adz_v177, v184, adz_v184, v191, adz_v191, m9_, m14_, m20_, (by rw [ha.out]; exact putSel_upk 2 hb_ rfl rfl rfl), zG67, fun _ => zG59, z_HI0, zG54, zK129, z_HI0_e1, fun _ => zK150, fun h0_ _ => absurd ((hoff 5 zG69).symm.trans h0_) zG70, z_HO178, Q_HA_HO178, fun h0_ _ => absurd ((hoff 8 zG69).symm.trans h0_) zG70, z_HO185, Q_HA_HO185, fun h0_ _ => absurd ((hoff 13 zG69).symm.trans h0_) zG70, z_HO192, Q_HA_HO192, fun h0_ => absurd ((hoff 19 zG69).symm.trans h0_) zG70, fun h0_ => absurd ((hoff 23 zG69).symm.trans h0_) zG70, fun h0_ => absurd ((hoff 9 zG69).symm.trans h0_) zG70, fun h0_ => absurd ((hoff 14 zG69).symm.trans h0_) zG70, fun h0_ => absurd ((hoff 20 zG69).symm.trans h0_) zG70⟩
        refine steps_cons ?_ ?_
        ·rintro b a w' ⟨v171, v177, adz_v177, v184, adz_v184, v191, adz_v191, m9_, m14_, m20_, ha, Q_HO_3, Q_BK142, Q_HI0, Q_HK, Q_HB, Q_HI0_e1, Q_HO172, Q_HI0_e5, Q_HO178, Q_HA_HO178, Q_HI0_e8, Q_HO185, Q_HA_HO185, Q_HI0_e13, Q_HO192, Q_HA_HO192, Q_HI0_e19, Q_BK142_e23, Q_X9_, Q_X14_, Q_X20_⟩ hb_ hon hoff
         refine ⟨_, rfl, fun K hK => ?_⟩
         have e67 : a.tmps[67]? = some (.pointer (some ⟨g, 0, none⟩)) := by rw [ha]; exact (putSel_off rfl).trans rfl
         have e68 : a.tmps[68]? = some (v171) := by rw [ha]; exact putSel_on (e := (4, 68, v171)) 2 rfl rfl (hon 4 zG69) rfl
         replace ha := za ha
         obtain ⟨HO_3, BK142, HK, HB, HI0, HO172⟩ := zD6 Q_HO_3 (Q_BK142 (hoff 23 zG69)) Q_HK Q_HB (Q_HI0_e1 (hon 1 zG69) hb_) (Q_HO172 (hon 4 zG69))
         obtain ⟨Ao79, co79, eo79⟩ := zab HO172.out
         (first | subst eo79 | (injection eo79 with f1_ f2_ f3_; have f4_ := f1_.symm; have f5_ := f3_.symm; clear f1_ f2_ f3_; subst f4_; subst f5_))
         refine goes_ Try.func36 zG69 rfl #[.pointer (some ⟨g, 0, none⟩), .slice Ao79 y170.length co79] (by rfl) rfl rfl (by first | (simp only [List.map_toArray, List.map_cons, List.map_nil, Act.eval, Array.getD_eq_getD_getElem?, Option.getD_some, e67, e68]; done) | (simp only [List.map_toArray, List.map_cons, List.map_nil, Act.eval, Array.getD_eq_getD_getElem?, Option.getD_some, e67, e68]; rfl)) ?_
         with_reducible refine (spec_l00Src_pick.calls g s0_0 t168 t169 _ _ y170 t173 t174 t175 w0 _ ?side1 ?side2 ?side3 ?side4 ?side5 A63.out).mono ?_
         (case side1 => exact zH18)
         (case side2 => exact zH34)
         (case side3 => repeat (first | exact (zy HO172.out).2.2 | (with_reducible refine zad ?_ _) | (with_reducible refine zae ?_ _) | (with_reducible refine zaf ?_)))
         (case side4 => exact (zy HO172.out).2.1)
         (case side5 => exact far_slice (IsS67.own_ne HI0.out HO172.out zG70))
         rintro e w80 ⟨rfl, hi, hb, hk⟩
         refine ⟨_, rfl, ?_⟩
         obtain ⟨n0_, n1_, n2_, n3_, n4_, n5_⟩ := zD6 (zn (zw (IsS67.apart (show IsS67 w0 _ g s0_0 t168 t169 from by repeat (first | (with_reducible first | exact HI0.out | apply IsS67.alloc | apply IsS67.drewN | apply IsS67.drew | apply IsS67.set_1 | apply IsS67.set_2 | refine IsS67.far ?_ (IsS67.ne_blk HI0.out BK142.out zG70) _ | refine IsS67.far ?_ NB0_142.out _) | exact HI0.out)) zG67 zG70) hk (fun _ h => h.2)) (fun _ h => h.1)) (zal hk (g' := gb142) (o := .cells (za5 1 t130 (wrap64 (1 + t133)) (wrap64 (1 + t136)) (wrap64 (x4_1 + t139))) 34 (0, 0)) zG59 NB142_0.out (by simp)) (zn (zw (IsS67.apart (show IsS67 w0 _ g s0_0 t168 t169 from by repeat (first | (with_reducible first | exact HI0.out | apply IsS67.alloc | apply IsS67.drewN | apply IsS67.drew | apply IsS67.set_1 | apply IsS67.set_2 | refine IsS67.far ?_ (IsS67.ne_blk HI0.out BK142.out zG70) _ | refine IsS67.far ?_ NB0_142.out _) | exact HI0.out)) zK150 zG70) hk (fun _ h => h.2)) (fun _ h => h.1)) (zaa zG54 hk (.inl rfl)) (hb) (hi)
         have z_HO178 := fun (h0_ : b 6 = true) => (show Kd.R (Kd.int .i64) 3 w80 w.heap.size (fun _ => True) v177 y176 from by first | exact (zn (zw (IsS67.apart (show IsS67 w0 _ g s0_0 t168 t169 from by repeat (first | (with_reducible first | exact HI0.out | apply IsS67.alloc | apply IsS67.drewN | apply IsS67.drew | apply IsS67.set_1 | apply IsS67.set_2 | refine IsS67.far ?_ (IsS67.ne_blk HI0.out BK142.out zG70) _ | refine IsS67.far ?_ NB0_142.out _) | exact HI0.out)) zG64 zG70) hk (fun _ h => h.2)) (fun _ h => h.1)) | exact zn (zn (zw (IsS67.apart (show IsS67 w0 _ g s0_0 t168 t169 from by repeat (first | (with_reducible first | exact HI0.out | apply IsS67.alloc | apply IsS67.drewN | apply IsS67.drew | apply IsS67.set_1 | apply IsS67.set_2 | refine IsS67.far ?_ (IsS67.ne_blk HI0.out BK142.out zG70) _ | refine IsS67.far ?_ NB0_142.out _) | exact HI0.out)) zG64 zG70) hk (fun _ h => h.2)) (fun _ h => h.1)) (fun _ h_ => by first | trivial | exact h_ | exact h_.1))
         have z_HO185 := fun (h0_ : b 11 = true) => (show Kd.R (Kd.int .i64) 3 w80 w.heap.size (fun _ => True) v184 y183 from by first | exact (zn (zw (IsS67.apart (show IsS67 w0 _ g s0_0 t168 t169 from by repeat (first | (with_reducible first | exact HI0.out | apply IsS67.alloc | apply IsS67.drewN | apply IsS67.drew | apply IsS67.set_1 | apply IsS67.set_2 | refine IsS67.far ?_ (IsS67.ne_blk HI0.out BK142.out zG70) _ | refine IsS67.far ?_ NB0_142.out _) | exact HI0.out)) zG65 zG70) hk (fun _ h => h.2)) (fun _ h => h.1)) | exact zn (zn (zw (IsS67.apart (show IsS67 w0 _ g s0_0 t168 t169 from by repeat (first | (with_reducible first | exact HI0.out | apply IsS67.alloc | apply IsS67.drewN | apply IsS67.drew | apply IsS67.set_1 | apply IsS67.set_2 | refine IsS67.far ?_ (IsS67.ne_blk HI0.out BK142.out zG70) _ | refine IsS67.far ?_ NB0_142.out _) | exact HI0.out)) zG65 zG70) hk (fun _ h => h.2)) (fun _ h => h.1)) (fun _ h_ => by first | trivial | exact h_ | exact h_.1))
         have z_HO192 := fun (h0_ : b 17 = true) => (show Kd.R (Kd.int .i64) 3 w80 w.heap.size (fun _ => True) v191 y190 from by first | exact (zn (zw (IsS67.apart (show IsS67 w0 _ g s0_0 t168 t169 from by repeat (first | (with_reducible first | exact HI0.out | apply IsS67.alloc | apply IsS67.drewN | apply IsS67.drew | apply IsS67.set_1 | apply IsS67.set_2 | refine IsS67.far ?_ (IsS67.ne_blk HI0.out BK142.out zG70) _ | refine IsS67.far ?_ NB0_142.out _) | exact HI0.out)) zG66 zG70) hk (fun _ h => h.2)) (fun _ h => h.1)) | exact zn (zn (zw (IsS67.apart (show IsS67 w0 _ g s0_0 t168 t169 from by repeat (first | (with_reducible first | exact HI0.out | apply IsS67.alloc | apply IsS67.drewN | apply IsS67.drew | apply IsS67.set_1 | apply IsS67.set_2 | refine IsS67.far ?_ (IsS67.ne_blk HI0.out BK142.out zG70) _ | refine IsS67.far ?_ NB0_142.out _) | exact HI0.out)) zG66 zG70) hk (fun _ h => h.2)) (fun _ h => h.1)) (fun _ h_ => by first | trivial | exact h_ | exact h_.1))
         clear HO_3
         clear BK142
         clear HO172
         clear HK
         clear HB
         clear HI0
         have HO_3 := n0_
         have BK142 := n1_
         have HO172 := n2_
         have HK := n3_
         have HB := n4_
         have HI0 := n5_
         clear n0_ n1_ n2_ n3_ n4_ n5_
         (try clear hb)
         (try clear hb2)
         (try clear hk)
         (try clear hi)
         refine hK.out _ _ ⟨.slice Ao79 y170.length co79, v177, adz_v177, v184, adz_v184, v191, adz_v191, m9_, m14_, m20_, (by rw [ha.out]; exact putSel_upk 3 hb_ rfl rfl rfl), zG67, fun _ => zG59, fun h0_ => absurd ((hon 1 zG69).symm.trans h0_) zG70, zG54, zG55, fun _ h1_ => absurd ((up_self b 5).symm.trans h1_) zG70, fun _ => zK150, fun _ _ => zK105, z_HO178, Q_HA_HO178, fun h0_ _ => absurd ((hoff 8 zG69).symm.trans h0_) zG70, z_HO185, Q_HA_HO185, fun h0_ _ => absurd ((hoff 13 zG69).symm.trans h0_) zG70, z_HO192, Q_HA_HO192, fun h0_ => absurd ((hoff 19 zG69).symm.trans h0_) zG70, fun h0_ => absurd ((hoff 23 zG69).symm.trans h0_) zG70, fun h0_ => absurd ((hoff 9 zG69).symm.trans h0_) zG70, fun h0_ => absurd ((hoff 14 zG69).symm.trans h0_) zG70, fun h0_ => absurd ((hoff 20 zG69).symm.trans h0_) zG70⟩
        refine steps_cons ?_ ?_
        ·rintro b a w' ⟨v171, v177, adz_v177, v184, adz_v184, v191, adz_v191, m9_, m14_, m20_, ha, Q_HO_3, Q_BK142, Q_HI0, Q_HK, Q_HB, Q_HI0_e1, Q_HO172, Q_HI0_e5, Q_HO178, Q_HA_HO178, Q_HI0_e8, Q_HO185, Q_HA_HO185, Q_HI0_e13, Q_HO192, Q_HA_HO192, Q_HI0_e19, Q_BK142_e23, Q_X9_, Q_X14_, Q_X20_⟩ hb_ hon hoff
         refine ⟨_, rfl, fun K hK => ?_⟩
         replace ha := za ha
         obtain ⟨HO_3, BK142, HK, HB⟩ := zD4 Q_HO_3 (Q_BK142 (hoff 23 zG69)) Q_HK Q_HB
         refine zaw (Kd.int .i64) _ 3 ?hg (N := 70) ?hd (xs := ([0, 1, 1000000, 1000001] : List Int)) (inner := [.int .i64 0, .int .i64 1, .int .i64 1000000, .int .i64 1000001]) (ok := fun _ => True) (okp := fun _ => True) ?hr ?hp (fun _ hk => hk) trivial (Below.refl _ _) (Nat.le_refl _) (by simp) ?_; (case hd => rfl); (case hg => rfl); (case hr => exact zH81); (case hp => exact (Reps.one (show Kd.M (Kd.int .i64) _ _ _ 0 [.int .i64 0] from rfl) (Reps.one (show Kd.M (Kd.int .i64) _ _ _ 1 [.int .i64 1] from rfl) (Reps.one (show Kd.M (Kd.int .i64) _ _ _ 1000000 [.int .i64 1000000] from rfl) (Reps.one (show Kd.M (Kd.int .i64) _ _ _ 1000001 [.int .i64 1000001] from rfl) (Reps.none _ _))))))
         intro v177 w75 ho76 hb hg_ hnew_
         clear hg_ hnew_
         (first | rw [← Ny176.out] at ho76 | (simp only [Int.reduceToNat] at ho76; rw [← Ny176.out] at ho76))
         obtain ⟨n0_, n1_, n2_, n4_, n5_⟩ := zD5 (zt zG67 hb) (zah ho76 (keep_size (w := w) (g := g) (row := none) zG54)) (zq (g := gb142) (o := .cells (za5 1 t130 (wrap64 (1 + t133)) (wrap64 (1 + t136)) (wrap64 (x4_1 + t139))) 34 (0, 0)) zG59 hb) (zaa zG54 (zak hb g none) (.inl rfl)) (zu zK129 hb)
         have z_HI0 := fun (h0_ : b 1 = false) => (show IsS67 w0 w75 g s0_0 t144 t145 from by first | exact (IsS67.below zK114 hb))
         have z_HI0_e1 := fun (h0_ : b 1 = true) (h1_ : b 5 = false) => (show IsS67 w0 w75 g s0_0 t168 t169 from by first | exact (IsS67.below zK109 hb))
         have z_HO172 := fun (h0_ : b 4 = true) => (show Kd.R Kd.string 9 w75 w.heap.size (fun _ => True) v171 y170 from by first | exact (zt zK145 hb) | exact zn (zt zK145 hb) (fun _ h_ => by first | trivial | exact h_ | exact h_.1))
         have z_HI0_e5 := fun (h0_ : b 5 = true) (h1_ : b 8 = false) => (show IsS67 w0 w75 g s0_0 t174 t175 from by first | exact (IsS67.below zK110 hb))
         have z_HI0_e8 := fun (h0_ : b 8 = true) (h1_ : b 13 = false) => (show IsS67 w0 w75 g s0_0 t180 t181 from by first | exact (IsS67.below zK111 hb))
         have z_HO185 := fun (h0_ : b 11 = true) => (show Kd.R (Kd.int .i64) 3 w75 w.heap.size (fun _ => True) v184 y183 from by first | exact (zag zG65 (zaj ho76) hb) | exact zn (zag zG65 (zaj ho76) hb) (fun _ h_ => by first | trivial | exact h_ | exact h_.1))
         have z_HI0_e13 := fun (h0_ : b 13 = true) (h1_ : b 19 = false) => (show IsS67 w0 w75 g s0_0 t187 t188 from by first | exact (IsS67.below zK108 hb))
         have z_HO192 := fun (h0_ : b 17 = true) => (show Kd.R (Kd.int .i64) 3 w75 w.heap.size (fun _ => True) v191 y190 from by first | exact (zag zG66 (zaj ho76) hb) | exact zn (zag zG66 (zaj ho76) hb) (fun _ h_ => by first | trivial | exact h_ | exact h_.1))
         have z_HI0_e19 := fun (h0_ : b 19 = true) => (show IsS67 w0 w75 g s0_0 t194 t195 from by first | exact (IsS67.below zK112 hb))
         clear HO_3
         clear BK142
         clear HK
         clear HB
         have HO_3 := n0_
         have HO178 := n1_
         have BK142 := n2_
         have HK := n4_
         have HB := n5_
         clear n0_ n1_ n2_ n4_ n5_
         clear hb ho76
         obtain ⟨Ao77, co77, eo77⟩ := zab HO178.out
         subst eo77
         obtain ⟨ado77, fo77, _⟩ := zap (zy HO178.out).2.2 0 zG70 (by rw [Ny176.out]; simp)
         cases fo77
         refine hK.out _ _ ⟨v171, .slice (some ado77) y176.length co77, ado77, v184, adz_v184, v191, adz_v191, m9_, m14_, m20_, (by rw [ha.out]; exact putSel_upk 4 hb_ rfl rfl rfl), zG67, fun _ => zG59, z_HI0, zG54, zK129, z_HI0_e1, z_HO172, z_HI0_e5, fun _ => (by (with_reducible repeat (first | apply zj | apply zk | apply zl)); exact HO178.out), fun _ => ⟨_, rfl⟩, z_HI0_e8, z_HO185, Q_HA_HO185, z_HI0_e13, z_HO192, Q_HA_HO192, z_HI0_e19, fun h0_ => absurd ((hoff 23 zG69).symm.trans h0_) zG70, fun h0_ => absurd ((hoff 9 zG69).symm.trans h0_) zG70, Q_X14_, Q_X20_⟩
        refine steps_cons ?_ ?_
        ·rintro b a w' ⟨v171, v177, adz_v177, v184, adz_v184, v191, adz_v191, m9_, m14_, m20_, ha, Q_HO_3, Q_BK142, Q_HI0, Q_HK, Q_HB, Q_HI0_e1, Q_HO172, Q_HI0_e5, Q_HO178, Q_HA_HO178, Q_HI0_e8, Q_HO185, Q_HA_HO185, Q_HI0_e13, Q_HO192, Q_HA_HO192, Q_HI0_e19, Q_BK142_e23, Q_X9_, Q_X14_, Q_X20_⟩ hb_ hon hoff
         refine ⟨_, rfl, fun K hK => ?_⟩
         have e71 : a.tmps[71]? = some (.pointer (some ⟨g, 0, none⟩)) := by rw [ha]; exact (putSel_off rfl).trans rfl
         replace ha := za ha
         obtain ⟨HO_3, BK142, HK, HB, HO172, HI0⟩ := zD6 Q_HO_3 (Q_BK142 (hoff 23 zG69)) Q_HK Q_HB (Q_HO172 (hon 4 zG69)) (Q_HI0_e5 (hon 5 zG69) hb_)
         refine goes_ Try.func34 zG69 rfl #[.pointer (some ⟨g, 0, none⟩), .int .i64 4] (by rfl) rfl rfl (by first | (simp only [List.map_toArray, List.map_cons, List.map_nil, Act.eval, Array.getD_eq_getD_getElem?, Option.getD_some, e71]; done) | (simp only [List.map_toArray, List.map_cons, List.map_nil, Act.eval, Array.getD_eq_getD_getElem?, Option.getD_some, e71]; rfl)) ?_
         with_reducible refine (spec_l00Src_next.calls g s0_0 t174 t175 4 t179 t180 t181 w0 _ ?side1 ?side2 A64.out).mono ?_
         (case side1 => exact zH18)
         (case side2 => exact zH34)
         rintro e w81 ⟨rfl, hi, hb, hk⟩
         refine ⟨_, rfl, ?_⟩
         obtain ⟨n0_, n1_, n2_, n3_, n4_, n5_⟩ := zD6 (zn (zw (IsS67.apart (show IsS67 w0 _ g s0_0 t174 t175 from by repeat (first | (with_reducible first | exact HI0.out | apply IsS67.alloc | apply IsS67.drewN | apply IsS67.drew | apply IsS67.set_1 | apply IsS67.set_2 | refine IsS67.far ?_ (IsS67.ne_blk HI0.out BK142.out zG70) _ | refine IsS67.far ?_ NB0_142.out _) | exact HI0.out)) zG67 zG70) hk (fun _ h => h.2)) (fun _ h => h.1)) (zal hk (g' := gb142) (o := .cells (za5 1 t130 (wrap64 (1 + t133)) (wrap64 (1 + t136)) (wrap64 (x4_1 + t139))) 34 (0, 0)) zG59 NB142_0.out (by simp)) (zn (zw (IsS67.apart (show IsS67 w0 _ g s0_0 t174 t175 from by repeat (first | (with_reducible first | exact HI0.out | apply IsS67.alloc | apply IsS67.drewN | apply IsS67.drew | apply IsS67.set_1 | apply IsS67.set_2 | refine IsS67.far ?_ (IsS67.ne_blk HI0.out BK142.out zG70) _ | refine IsS67.far ?_ NB0_142.out _) | exact HI0.out)) zK150 zG70) hk (fun _ h => h.2)) (fun _ h => h.1)) (zaa zG54 hk (.inl rfl)) (hb) (hi)
         have z_HO178 := fun (h0_ : b 6 = true) => (show Kd.R (Kd.int .i64) 3 w81 w.heap.size (fun _ => True) v177 y176 from by first | exact (zn (zw (IsS67.apart (show IsS67 w0 _ g s0_0 t174 t175 from by repeat (first | (with_reducible first | exact HI0.out | apply IsS67.alloc | apply IsS67.drewN | apply IsS67.drew | apply IsS67.set_1 | apply IsS67.set_2 | refine IsS67.far ?_ (IsS67.ne_blk HI0.out BK142.out zG70) _ | refine IsS67.far ?_ NB0_142.out _) | exact HI0.out)) zG64 zG70) hk (fun _ h => h.2)) (fun _ h => h.1)) | exact zn (zn (zw (IsS67.apart (show IsS67 w0 _ g s0_0 t174 t175 from by repeat (first | (with_reducible first | exact HI0.out | apply IsS67.alloc | apply IsS67.drewN | apply IsS67.drew | apply IsS67.set_1 | apply IsS67.set_2 | refine IsS67.far ?_ (IsS67.ne_blk HI0.out BK142.out zG70) _ | refine IsS67.far ?_ NB0_142.out _) | exact HI0.out)) zG64 zG70) hk (fun _ h => h.2)) (fun _ h => h.1)) (fun _ h_ => by first | trivial | exact h_ | exact h_.1))
         have z_HO185 := fun (h0_ : b 11 = true) => (show Kd.R (Kd.int .i64) 3 w81 w.heap.size (fun _ => True) v184 y183 from by first | exact (zn (zw (IsS67.apart (show IsS67 w0 _ g s0_0 t174 t175 from by repeat (first | (with_reducible first | exact HI0.out | apply IsS67.alloc | apply IsS67.drewN | apply IsS67.drew | apply IsS67.set_1 | apply IsS67.set_2 | refine IsS67.far ?_ (IsS67.ne_blk HI0.out BK142.out zG70) _ | refine IsS67.far ?_ NB0_142.out _) | exact HI0.out)) zG65 zG70) hk (fun _ h => h.2)) (fun _ h => h.1)) | exact zn (zn (zw (IsS67.apart (show IsS67 w0 _ g s0_0 t174 t175 from by repeat (first | (with_reducible first | exact HI0.out | apply IsS67.alloc | apply IsS67.drewN | apply IsS67.drew | apply IsS67.set_1 | apply IsS67.set_2 | refine IsS67.far ?_ (IsS67.ne_blk HI0.out BK142.out zG70) _ | refine IsS67.far ?_ NB0_142.out _) | exact HI0.out)) zG65 zG70) hk (fun _ h => h.2)) (fun _ h => h.1)) (fun _ h_ => by first | trivial | exact h_ | exact h_.1))
         have z_HO192 := fun (h0_ : b 17 = true) => (show Kd.R (Kd.int .i64) 3 w81 w.heap.size (fun _ => True) v191 y190 from by first | exact (zn (zw (IsS67.apart (show IsS67 w0 _ g s0_0 t174 t175 from by repeat (first | (with_reducible first | exact HI0.out | apply IsS67.alloc | apply IsS67.drewN | apply IsS67.drew | apply IsS67.set_1 | apply IsS67.set_2 | refine IsS67.far ?_ (IsS67.ne_blk HI0.out BK142.out zG70) _ | refine IsS67.far ?_ NB0_142.out _) | exact HI0.out)) zG66 zG70) hk (fun _ h => h.2)) (fun _ h => h.1)) | exact zn (zn (zw (IsS67.apart (show IsS67 w0 _ g s0_0 t174 t175 from by repeat (first | (with_reducible first | exact HI0.out | apply IsS67.alloc | apply IsS67.drewN | apply IsS67.drew | apply IsS67.set_1 | apply IsS67.set_2 | refine IsS67.far ?_ (IsS67.ne_blk HI0.out BK142.out zG70) _ | refine IsS67.far ?_ NB0_142.out _) | exact HI0.out)) zG66 zG70) hk (fun _ h => h.2)) (fun _ h => h.1)) (fun _ h_ => by first | trivial | exact h_ | exact h_.1))
         clear HO_3
         clear BK142
         clear HO172
         clear HK
         clear HB
         clear HI0
         have HO_3 := n0_
         have BK142 := n1_
         have HO172 := n2_
         have HK := n3_
         have HB := n4_
         have HI0 := n5_
         clear n0_ n1_ n2_ n3_ n4_ n5_
         (try clear hb)
         (try clear hb2)
         (try clear hk)
         (try clear hi)
         refine hK.out _ _ ⟨v171, v177, adz_v177, v184, adz_v184, v191, adz_v191, m9_, m14_, m20_, (by rw [ha.out]; exact putSel_upk 5 hb_ rfl rfl rfl), zG67, fun _ => zG59, fun h0_ => absurd ((hon 1 zG69).symm.trans h0_) zG70, zG54, zG55, fun _ h1_ => absurd ((hon 5 zG69).symm.trans h1_) zG70, fun _ => zK150, fun _ h1_ => absurd ((up_self b 8).symm.trans h1_) zG70, z_HO178, Q_HA_HO178, fun _ _ => zK105, z_HO185, Q_HA_HO185, fun h0_ _ => absurd ((hoff 13 zG69).symm.trans h0_) zG70, z_HO192, Q_HA_HO192, fun h0_ => absurd ((hoff 19 zG69).symm.trans h0_) zG70, fun h0_ => absurd ((hoff 23 zG69).symm.trans h0_) zG70, fun h0_ => absurd ((hoff 9 zG69).symm.trans h0_) zG70, fun h0_ => absurd ((hoff 14 zG69).symm.trans h0_) zG70, fun h0_ => absurd ((hoff 20 zG69).symm.trans h0_) zG70⟩
        refine steps_cons ?_ ?_
        ·rintro b a w' ⟨v171, v177, adz_v177, v184, adz_v184, v191, adz_v191, m9_, m14_, m20_, ha, Q_HO_3, Q_BK142, Q_HI0, Q_HK, Q_HB, Q_HI0_e1, Q_HO172, Q_HI0_e5, Q_HO178, Q_HA_HO178, Q_HI0_e8, Q_HO185, Q_HA_HO185, Q_HI0_e13, Q_HO192, Q_HA_HO192, Q_HI0_e19, Q_BK142_e23, Q_X9_, Q_X14_, Q_X20_⟩ hb_ hon hoff
         refine ⟨_, rfl, fun K hK => ?_⟩
         have e70 : a.tmps[70]? = some (v177) := by rw [ha]; exact putSel_on (e := (6, 70, v177)) 4 rfl rfl (hon 6 zG69) rfl
         have e72 : a.tmps[72]? = some (.int .i64 t179) := by rw [ha]; exact putSel_on (e := (8, 72, .int .i64 t179)) 5 rfl rfl (hon 8 zG69) rfl
         replace ha := za ha
         obtain ⟨HO_3, BK142, HK, HB, HO172, HO178, HA_HO178⟩ := zD7 Q_HO_3 (Q_BK142 (hoff 23 zG69)) Q_HK Q_HB (Q_HO172 (hon 4 zG69)) (Q_HO178 (hon 6 zG69)) (Q_HA_HO178 (hon 6 zG69))
         obtain ⟨c_, hv_⟩ := HA_HO178.out
         rw [hv_] at e70
         refine value_ (w1 := w') (v := .pointer (some (adz_v177.add (t179).toNat))) (by rfl) rfl ?_ ?_
         ·go_simp
          (try simp only [i64_w])
          try rfl
         refine hK.out _ _ ⟨v171, v177, adz_v177, v184, adz_v184, v191, adz_v191, (.pointer (some (adz_v177.add (t179).toNat))), m14_, m20_, (by rw [ha.out]; exact putSel_upk 6 hb_ rfl rfl rfl), Q_HO_3, Q_BK142, fun h0_ => absurd ((hon 1 zG69).symm.trans h0_) zG70, Q_HK, Q_HB, fun _ h1_ => absurd ((hon 5 zG69).symm.trans h1_) zG70, Q_HO172, fun _ h1_ => absurd ((hon 8 zG69).symm.trans h1_) zG70, Q_HO178, Q_HA_HO178, Q_HI0_e8, Q_HO185, Q_HA_HO185, Q_HI0_e13, Q_HO192, Q_HA_HO192, Q_HI0_e19, fun h0_ => absurd ((hoff 23 zG69).symm.trans h0_) zG70, fun _ => rfl, Q_X14_, Q_X20_⟩
        refine steps_cons ?_ ?_
        ·rintro b a w' ⟨v171, v177, adz_v177, v184, adz_v184, v191, adz_v191, m9_, m14_, m20_, ha, Q_HO_3, Q_BK142, Q_HI0, Q_HK, Q_HB, Q_HI0_e1, Q_HO172, Q_HI0_e5, Q_HO178, Q_HA_HO178, Q_HI0_e8, Q_HO185, Q_HA_HO185, Q_HI0_e13, Q_HO192, Q_HA_HO192, Q_HI0_e19, Q_BK142_e23, Q_X9_, Q_X14_, Q_X20_⟩ hb_ hon hoff
         refine ⟨_, rfl, fun K hK => ?_⟩
         have e73 : a.tmps[73]? = some (m9_) := by rw [ha]; exact putSel_on (e := (9, 73, m9_)) 6 rfl rfl (hon 9 zG69) rfl
         rw [Q_X9_ (hon 9 zG69)] at e73
         replace ha := za ha
         obtain ⟨HO_3, BK142, HK, HB, HO172, HO178, HA_HO178⟩ := zD7 Q_HO_3 (Q_BK142 (hoff 23 zG69)) Q_HK Q_HB (Q_HO172 (hon 4 zG69)) (Q_HO178 (hon 6 zG69)) (Q_HA_HO178 (hon 6 zG69))
         obtain ⟨c_, hv_⟩ := HA_HO178.out
         have hF_ := HO178.out
         rw [hv_] at hF_
         obtain ⟨ad_, ea_, hx_⟩ := zap (zy hF_).2.2 t179 (of_eq_true pi182) (of_eq_true qi182)
         cases ea_
         refine value_ (w1 := w') (v := .int .i64 (rd y176 t179)) (by rfl) rfl ?_ ?_
         ·go_simp
          (try simp only [i64_w])
          try rfl
         refine hK.out _ _ ⟨v171, v177, adz_v177, v184, adz_v184, v191, adz_v191, m9_, m14_, m20_, (by rw [ha.out]; exact putSel_upk 7 hb_ rfl rfl rfl), Q_HO_3, Q_BK142, fun h0_ => absurd ((hon 1 zG69).symm.trans h0_) zG70, Q_HK, Q_HB, fun _ h1_ => absurd ((hon 5 zG69).symm.trans h1_) zG70, Q_HO172, fun _ h1_ => absurd ((hon 8 zG69).symm.trans h1_) zG70, Q_HO178, Q_HA_HO178, Q_HI0_e8, Q_HO185, Q_HA_HO185, Q_HI0_e13, Q_HO192, Q_HA_HO192, Q_HI0_e19, fun h0_ => absurd ((hoff 23 zG69).symm.trans h0_) zG70, Q_X9_, Q_X14_, Q_X20_⟩
        refine steps_cons ?_ ?_
        ·rintro b a w' ⟨v171, v177, adz_v177, v184, adz_v184, v191, adz_v191, m9_, m14_, m20_, ha, Q_HO_3, Q_BK142, Q_HI0, Q_HK, Q_HB, Q_HI0_e1, Q_HO172, Q_HI0_e5, Q_HO178, Q_HA_HO178, Q_HI0_e8, Q_HO185, Q_HA_HO185, Q_HI0_e13, Q_HO192, Q_HA_HO192, Q_HI0_e19, Q_BK142_e23, Q_X9_, Q_X14_, Q_X20_⟩ hb_ hon hoff
         refine ⟨_, rfl, fun K hK => ?_⟩
         replace ha := za ha
         obtain ⟨HO_3, BK142, HK, HB⟩ := zD4 Q_HO_3 (Q_BK142 (hoff 23 zG69)) Q_HK Q_HB
         refine zaw (Kd.int .i64) _ 3 ?hg (N := 75) ?hd (xs := ([0, 1, 100000, 100001, (-1), 100000] : List Int)) (inner := [.int .i64 0, .int .i64 1, .int .i64 100000, .int .i64 100001, .int .i64 (-1), .int .i64 100000]) (ok := fun _ => True) (okp := fun _ => True) ?hr ?hp (fun _ hk => hk) trivial (Below.refl _ _) (Nat.le_refl _) (by simp) ?_; (case hd => rfl); (case hg => rfl); (case hr => exact zH81); (case hp => exact (Reps.one (show Kd.M (Kd.int .i64) _ _ _ 0 [.int .i64 0] from rfl) (Reps.one (show Kd.M (Kd.int .i64) _ _ _ 1 [.int .i64 1] from rfl) (Reps.one (show Kd.M (Kd.int .i64) _ _ _ 100000 [.int .i64 100000] from rfl) (Reps.one (show Kd.M (Kd.int .i64) _ _ _ 100001 [.int .i64 100001] from rfl) (Reps.one (show Kd.M (Kd.int .i64) _ _ _ (-1) [.int .i64 (-1)] from rfl) (Reps.one (show Kd.M (Kd.int .i64) _ _ _ 100000 [.int .i64 100000] from rfl) (Reps.none _ _))))))))
         intro v184 w75 ho76 hb hg_ hnew_
         clear hg_ hnew_
         (first | rw [← Ny183.out] at ho76 | (simp only [Int.reduceToNat] at ho76; rw [← Ny183.out] at ho76))
         obtain ⟨n0_, n1_, n2_, n4_, n5_⟩ := zD5 (zt zG67 hb) (zah ho76 (keep_size (w := w) (g := g) (row := none) zG54)) (zq (g := gb142) (o := .cells (za5 1 t130 (wrap64 (1 + t133)) (wrap64 (1 + t136)) (wrap64 (x4_1 + t139))) 34 (0, 0)) zG59 hb) (zaa zG54 (zak hb g none) (.inl rfl)) (zu zK129 hb)
         have z_HI0 := fun (h0_ : b 1 = false) => (show IsS67 w0 w75 g s0_0 t144 t145 from by first | exact (IsS67.below zK114 hb))
         have z_HI0_e1 := fun (h0_ : b 1 = true) (h1_ : b 5 = false) => (show IsS67 w0 w75 g s0_0 t168 t169 from by first | exact (IsS67.below zK109 hb))
         have z_HO172 := fun (h0_ : b 4 = true) => (show Kd.R Kd.string 9 w75 w.heap.size (fun _ => True) v171 y170 from by first | exact (zt zK145 hb) | exact zn (zt zK145 hb) (fun _ h_ => by first | trivial | exact h_ | exact h_.1))
         have z_HI0_e5 := fun (h0_ : b 5 = true) (h1_ : b 8 = false) => (show IsS67 w0 w75 g s0_0 t174 t175 from by first | exact (IsS67.below zK110 hb))
         have z_HO178 := fun (h0_ : b 6 = true) => (show Kd.R (Kd.int .i64) 3 w75 w.heap.size (fun _ => True) v177 y176 from by first | exact (zag zG64 (zaj ho76) hb) | exact zn (zag zG64 (zaj ho76) hb) (fun _ h_ => by first | trivial | exact h_ | exact h_.1))
         have z_HI0_e8 := fun (h0_ : b 8 = true) (h1_ : b 13 = false) => (show IsS67 w0 w75 g s0_0 t180 t181 from by first | exact (IsS67.below zK111 hb))
         have z_HI0_e13 := fun (h0_ : b 13 = true) (h1_ : b 19 = false) => (show IsS67 w0 w75 g s0_0 t187 t188 from by first | exact (IsS67.below zK108 hb))
         have z_HO192 := fun (h0_ : b 17 = true) => (show Kd.R (Kd.int .i64) 3 w75 w.heap.size (fun _ => True) v191 y190 from by first | exact (zag zG66 (zaj ho76) hb) | exact zn (zag zG66 (zaj ho76) hb) (fun _ h_ => by first | trivial | exact h_ | exact h_.1))
         have z_HI0_e19 := fun (h0_ : b 19 = true) => (show IsS67 w0 w75 g s0_0 t194 t195 from by first | exact (IsS67.below zK112 hb))
         clear HO_3
         clear BK142
         clear HK
         clear HB
         have HO_3 := n0_
         have HO185 := n1_
         have BK142 := n2_
         have HK := n4_
         have HB := n5_
         clear n0_ n1_ n2_ n4_ n5_
         clear hb ho76
         obtain ⟨Ao77, co77, eo77⟩ := zab HO185.out
         subst eo77
         obtain ⟨ado77, fo77, _⟩ := zap (zy HO185.out).2.2 0 zG70 (by rw [Ny183.out]; simp)
         cases fo77
         refine hK.out _ _ ⟨v171, v177, adz_v177, .slice (some ado77) y183.length co77, ado77, v191, adz_v191, m9_, m14_, m20_, (by rw [ha.out]; exact putSel_upk 8 hb_ rfl rfl rfl), zG67, fun _ => zG59, z_HI0, zG54, zK129, z_HI0_e1, z_HO172, z_HI0_e5, z_HO178, Q_HA_HO178, z_HI0_e8, fun _ => (by (with_reducible repeat (first | apply zj | apply zk | apply zl)); exact HO185.out), fun _ => ⟨_, rfl⟩, z_HI0_e13, z_HO192, Q_HA_HO192, z_HI0_e19, fun h0_ => absurd ((hoff 23 zG69).symm.trans h0_) zG70, Q_X9_, fun h0_ => absurd ((hoff 14 zG69).symm.trans h0_) zG70, Q_X20_⟩
        refine steps_cons ?_ ?_
        ·rintro b a w' ⟨v171, v177, adz_v177, v184, adz_v184, v191, adz_v191, m9_, m14_, m20_, ha, Q_HO_3, Q_BK142, Q_HI0, Q_HK, Q_HB, Q_HI0_e1, Q_HO172, Q_HI0_e5, Q_HO178, Q_HA_HO178, Q_HI0_e8, Q_HO185, Q_HA_HO185, Q_HI0_e13, Q_HO192, Q_HA_HO192, Q_HI0_e19, Q_BK142_e23, Q_X9_, Q_X14_, Q_X20_⟩ hb_ hon hoff
         refine ⟨_, rfl, fun K hK => ?_⟩
         have e76 : a.tmps[76]? = some (.pointer (some ⟨g, 0, none⟩)) := by rw [ha]; exact (putSel_off rfl).trans rfl
         replace ha := za ha
         obtain ⟨HO_3, BK142, HK, HB, HO172, HI0⟩ := zD6 Q_HO_3 (Q_BK142 (hoff 23 zG69)) Q_HK Q_HB (Q_HO172 (hon 4 zG69)) (Q_HI0_e8 (hon 8 zG69) hb_)
         refine goes_ Try.func34 zG69 rfl #[.pointer (some ⟨g, 0, none⟩), .int .i64 6] (by rfl) rfl rfl (by first | (simp only [List.map_toArray, List.map_cons, List.map_nil, Act.eval, Array.getD_eq_getD_getElem?, Option.getD_some, e76]; done) | (simp only [List.map_toArray, List.map_cons, List.map_nil, Act.eval, Array.getD_eq_getD_getElem?, Option.getD_some, e76]; rfl)) ?_
         with_reducible refine (spec_l00Src_next.calls g s0_0 t180 t181 6 t186 t187 t188 w0 _ ?side1 ?side2 A67.out).mono ?_
         (case side1 => exact zH18)
         (case side2 => exact zH34)
         rintro e w82 ⟨rfl, hi, hb, hk⟩
         refine ⟨_, rfl, ?_⟩
         obtain ⟨n0_, n1_, n2_, n3_, n4_, n5_⟩ := zD6 (zn (zw (IsS67.apart (show IsS67 w0 _ g s0_0 t180 t181 from by repeat (first | (with_reducible first | exact HI0.out | apply IsS67.alloc | apply IsS67.drewN | apply IsS67.drew | apply IsS67.set_1 | apply IsS67.set_2 | refine IsS67.far ?_ (IsS67.ne_blk HI0.out BK142.out zG70) _ | refine IsS67.far ?_ NB0_142.out _) | exact HI0.out)) zG67 zG70) hk (fun _ h => h.2)) (fun _ h => h.1)) (zal hk (g' := gb142) (o := .cells (za5 1 t130 (wrap64 (1 + t133)) (wrap64 (1 + t136)) (wrap64 (x4_1 + t139))) 34 (0, 0)) zG59 NB142_0.out (by simp)) (zn (zw (IsS67.apart (show IsS67 w0 _ g s0_0 t180 t181 from by repeat (first | (with_reducible first | exact HI0.out | apply IsS67.alloc | apply IsS67.drewN | apply IsS67.drew | apply IsS67.set_1 | apply IsS67.set_2 | refine IsS67.far ?_ (IsS67.ne_blk HI0.out BK142.out zG70) _ | refine IsS67.far ?_ NB0_142.out _) | exact HI0.out)) zK150 zG70) hk (fun _ h => h.2)) (fun _ h => h.1)) (zaa zG54 hk (.inl rfl)) (hb) (hi)
         have z_HO178 := fun (h0_ : b 6 = true) => (show Kd.R (Kd.int .i64) 3 w82 w.heap.size (fun _ => True) v177 y176 from by first | exact (zn (zw (IsS67.apart (show IsS67 w0 _ g s0_0 t180 t181 from by repeat (first | (with_reducible first | exact HI0.out | apply IsS67.alloc | apply IsS67.drewN | apply IsS67.drew | apply IsS67.set_1 | apply IsS67.set_2 | refine IsS67.far ?_ (IsS67.ne_blk HI0.out BK142.out zG70) _ | refine IsS67.far ?_ NB0_142.out _) | exact HI0.out)) zG64 zG70) hk (fun _ h => h.2)) (fun _ h => h.1)) | exact zn (zn (zw (IsS67.apart (show IsS67 w0 _ g s0_0 t180 t181 from by repeat (first | (with_reducible first | exact HI0.out | apply IsS67.alloc | apply IsS67.drewN | apply IsS67.drew | apply IsS67.set_1 | apply IsS67.set_2 | refine IsS67.far ?_ (IsS67.ne_blk HI0.out BK142.out zG70) _ | refine IsS67.far ?_ NB0_142.out _) | exact HI0.out)) zG64 zG70) hk (fun _ h => h.2)) (fun _ h => h.1)) (fun _ h_ => by first | trivial | exact h_ | exact h_.1))
         have z_HO185 := fun (h0_ : b 11 = true) => (show Kd.R (Kd.int .i64) 3 w82 w.heap.size (fun _ => True) v184 y183 from by first | exact (zn (zw (IsS67.apart (show IsS67 w0 _ g s0_0 t180 t181 from by repeat (first | (with_reducible first | exact HI0.out | apply IsS67.alloc | apply IsS67.drewN | apply IsS67.drew | apply IsS67.set_1 | apply IsS67.set_2 | refine IsS67.far ?_ (IsS67.ne_blk HI0.out BK142.out zG70) _ | refine IsS67.far ?_ NB0_142.out _) | exact HI0.out)) zG65 zG70) hk (fun _ h => h.2)) (fun _ h => h.1)) | exact zn (zn (zw (IsS67.apart (show IsS67 w0 _ g s0_0 t180 t181 from by repeat (first | (with_reducible first | exact HI0.out | apply IsS67.alloc | apply IsS67.drewN | apply IsS67.drew | apply IsS67.set_1 | apply IsS67.set_2 | refine IsS67.far ?_ (IsS67.ne_blk HI0.out BK142.out zG70) _ | refine IsS67.far ?_ NB0_142.out _) | exact HI0.out)) zG65 zG70) hk (fun _ h => h.2)) (fun _ h => h.1)) (fun _ h_ => by first | trivial | exact h_ | exact h_.1))
         have z_HO192 := fun (h0_ : b 17 = true) => (show Kd.R (Kd.int .i64) 3 w82 w.heap.size (fun _ => True) v191 y190 from by first | exact (zn (zw (IsS67.apart (show IsS67 w0 _ g s0_0 t180 t181 from by repeat (first | (with_reducible first | exact HI0.out | apply IsS67.alloc | apply IsS67.drewN | apply IsS67.drew | apply IsS67.set_1 | apply IsS67.set_2 | refine IsS67.far ?_ (IsS67.ne_blk HI0.out BK142.out zG70) _ | refine IsS67.far ?_ NB0_142.out _) | exact HI0.out)) zG66 zG70) hk (fun _ h => h.2)) (fun _ h => h.1)) | exact zn (zn (zw (IsS67.apart (show IsS67 w0 _ g s0_0 t180 t181 from by repeat (first | (with_reducible first | exact HI0.out | apply IsS67.alloc | apply IsS67.drewN | apply IsS67.drew | apply IsS67.set_1 | apply IsS67.set_2 | refine IsS67.far ?_ (IsS67.ne_blk HI0.out BK142.out zG70) _ | refine IsS67.far ?_ NB0_142.out _) | exact HI0.out)) zG66 zG70) hk (fun _ h => h.2)) (fun _ h => h.1)) (fun _ h_ => by first | trivial | exact h_ | exact h_.1))
         clear HO_3
         clear BK142
         clear HO172
         clear HK
         clear HB
         clear HI0
         have HO_3 := n0_
         have BK142 := n1_
         have HO172 := n2_
         have HK := n3_
         have HB := n4_
         have HI0 := n5_
         clear n0_ n1_ n2_ n3_ n4_ n5_
         (try clear hb)
         (try clear hb2)
         (try clear hk)
         (try clear hi)
         refine hK.out _ _ ⟨v171, v177, adz_v177, v184, adz_v184, v191, adz_v191, m9_, m14_, m20_, (by rw [ha.out]; exact putSel_upk 9 hb_ rfl rfl rfl), zG67, fun _ => zG59, fun h0_ => absurd ((hon 1 zG69).symm.trans h0_) zG70, zG54, zG55, fun _ h1_ => absurd ((hon 5 zG69).symm.trans h1_) zG70, fun _ => zK150, fun _ h1_ => absurd ((hon 8 zG69).symm.trans h1_) zG70, z_HO178, Q_HA_HO178, fun _ h1_ => absurd ((up_self b 13).symm.trans h1_) zG70, z_HO185, Q_HA_HO185, fun _ _ => zK105, z_HO192, Q_HA_HO192, fun h0_ => absurd ((hoff 19 zG69).symm.trans h0_) zG70, fun h0_ => absurd ((hoff 23 zG69).symm.trans h0_) zG70, Q_X9_, fun h0_ => absurd ((hoff 14 zG69).symm.trans h0_) zG70, fun h0_ => absurd ((hoff 20 zG69).symm.trans h0_) zG70⟩
        refine steps_cons ?_ ?_
        ·rintro b a w' ⟨v171, v177, adz_v177, v184, adz_v184, v191, adz_v191, m9_, m14_, m20_, ha, Q_HO_3, Q_BK142, Q_HI0, Q_HK, Q_HB, Q_HI0_e1, Q_HO172, Q_HI0_e5, Q_HO178, Q_HA_HO178, Q_HI0_e8, Q_HO185, Q_HA_HO185, Q_HI0_e13, Q_HO192, Q_HA_HO192, Q_HI0_e19, Q_BK142_e23, Q_X9_, Q_X14_, Q_X20_⟩ hb_ hon hoff
         refine ⟨_, rfl, fun K hK => ?_⟩
         have e75 : a.tmps[75]? = some (v184) := by rw [ha]; exact putSel_on (e := (11, 75, v184)) 8 rfl rfl (hon 11 zG69) rfl
         have e77 : a.tmps[77]? = some (.int .i64 t186) := by rw [ha]; exact putSel_on (e := (13, 77, .int .i64 t186)) 9 rfl rfl (hon 13 zG69) rfl
         replace ha := za ha
         obtain ⟨HO_3, BK142, HK, HB, HO172, HO185, HA_HO185⟩ := zD7 Q_HO_3 (Q_BK142 (hoff 23 zG69)) Q_HK Q_HB (Q_HO172 (hon 4 zG69)) (Q_HO185 (hon 11 zG69)) (Q_HA_HO185 (hon 11 zG69))
         obtain ⟨c_, hv_⟩ := HA_HO185.out
         rw [hv_] at e75
         refine value_ (w1 := w') (v := .pointer (some (adz_v184.add (t186).toNat))) (by rfl) rfl ?_ ?_
         ·go_simp
          (try simp only [i64_w])
          try rfl
         refine hK.out _ _ ⟨v171, v177, adz_v177, v184, adz_v184, v191, adz_v191, m9_, (.pointer (some (adz_v184.add (t186).toNat))), m20_, (by rw [ha.out]; exact putSel_upk 10 hb_ rfl rfl rfl), Q_HO_3, Q_BK142, fun h0_ => absurd ((hon 1 zG69).symm.trans h0_) zG70, Q_HK, Q_HB, fun _ h1_ => absurd ((hon 5 zG69).symm.trans h1_) zG70, Q_HO172, fun _ h1_ => absurd ((hon 8 zG69).symm.trans h1_) zG70, Q_HO178, Q_HA_HO178, fun _ h1_ => absurd ((hon 13 zG69).symm.trans h1_) zG70, Q_HO185, Q_HA_HO185, Q_HI0_e13, Q_HO192, Q_HA_HO192, Q_HI0_e19, fun h0_ => absurd ((hoff 23 zG69).symm.trans h0_) zG70, Q_X9_, fun _ => rfl, Q_X20_⟩
        refine steps_cons ?_ ?_
        ·rintro b a w' ⟨v171, v177, adz_v177, v184, adz_v184, v191, adz_v191, m9_, m14_, m20_, ha, Q_HO_3, Q_BK142, Q_HI0, Q_HK, Q_HB, Q_HI0_e1, Q_HO172, Q_HI0_e5, Q_HO178, Q_HA_HO178, Q_HI0_e8, Q_HO185, Q_HA_HO185, Q_HI0_e13, Q_HO192, Q_HA_HO192, Q_HI0_e19, Q_BK142_e23, Q_X9_, Q_X14_, Q_X20_⟩ hb_ hon hoff
         refine ⟨_, rfl, fun K hK => ?_⟩
         have e78 : a.tmps[78]? = some (m14_) := by rw [ha]; exact putSel_on (e := (14, 78, m14_)) 10 rfl rfl (hon 14 zG69) rfl
         rw [Q_X14_ (hon 14 zG69)] at e78
         replace ha := za ha
         obtain ⟨HO_3, BK142, HK, HB, HO172, HO185, HA_HO185⟩ := zD7 Q_HO_3 (Q_BK142 (hoff 23 zG69)) Q_HK Q_HB (Q_HO172 (hon 4 zG69)) (Q_HO185 (hon 11 zG69)) (Q_HA_HO185 (hon 11 zG69))
         obtain ⟨c_, hv_⟩ := HA_HO185.out
         have hF_ := HO185.out
         rw [hv_] at hF_
         obtain ⟨ad_, ea_, hx_⟩ := zap (zy hF_).2.2 t186 (of_eq_true pi189) (of_eq_true qi189)
         cases ea_
         refine value_ (w1 := w') (v := .int .i64 (rd y183 t186)) (by rfl) rfl ?_ ?_
         ·go_simp
          (try simp only [i64_w])
          try rfl
         refine hK.out _ _ ⟨v171, v177, adz_v177, v184, adz_v184, v191, adz_v191, m9_, m14_, m20_, (by rw [ha.out]; exact putSel_upk 11 hb_ rfl rfl rfl), Q_HO_3, Q_BK142, fun h0_ => absurd ((hon 1 zG69).symm.trans h0_) zG70, Q_HK, Q_HB, fun _ h1_ => absurd ((hon 5 zG69).symm.trans h1_) zG70, Q_HO172, fun _ h1_ => absurd ((hon 8 zG69).symm.trans h1_) zG70, Q_HO178, Q_HA_HO178, fun _ h1_ => absurd ((hon 13 zG69).symm.trans h1_) zG70, Q_HO185, Q_HA_HO185, Q_HI0_e13, Q_HO192, Q_HA_HO192, Q_HI0_e19, fun h0_ => absurd ((hoff 23 zG69).symm.trans h0_) zG70, Q_X9_, Q_X14_, Q_X20_⟩
        refine steps_cons ?_ ?_
        ·rintro b a w' ⟨v171, v177, adz_v177, v184, adz_v184, v191, adz_v191, m9_, m14_, m20_, ha, Q_HO_3, Q_BK142, Q_HI0, Q_HK, Q_HB, Q_HI0_e1, Q_HO172, Q_HI0_e5, Q_HO178, Q_HA_HO178, Q_HI0_e8, Q_HO185, Q_HA_HO185, Q_HI0_e13, Q_HO192, Q_HA_HO192, Q_HI0_e19, Q_BK142_e23, Q_X9_, Q_X14_, Q_X20_⟩ hb_ hon hoff
         refine ⟨_, rfl, fun K hK => ?_⟩
         have e80 : a.tmps[80]? = some (.int .i64 x4_1) := by rw [ha]; exact (putSel_off rfl).trans rfl
         replace ha := za ha
         obtain ⟨HO_3, BK142, HK, HB⟩ := zD4 Q_HO_3 (Q_BK142 (hoff 23 zG69)) Q_HK Q_HB
         refine zaw (Kd.int .i64) _ 3 ?hg (N := 81) ?hd (xs := ([(-1), 100000, 100001, x4_1] : List Int)) (inner := [.int .i64 (-1), .int .i64 100000, .int .i64 100001, .int .i64 x4_1]) (ok := fun _ => True) (okp := fun _ => True) ?hr ?hp (fun _ hk => hk) trivial (Below.refl _ _) (Nat.le_refl _) (by simp) ?_; (case hd => rfl); (case hg => rfl); (case hr => exact zH81); (case hp => exact (Reps.one (show Kd.M (Kd.int .i64) _ _ _ (-1) [.int .i64 (-1)] from rfl) (Reps.one (show Kd.M (Kd.int .i64) _ _ _ 100000 [.int .i64 100000] from rfl) (Reps.one (show Kd.M (Kd.int .i64) _ _ _ 100001 [.int .i64 100001] from rfl) (Reps.one (show Kd.M (Kd.int .i64) _ _ _ x4_1 [.int .i64 x4_1] from rfl) (Reps.none _ _))))))
         intro v191 w75 ho76 hb hg_ hnew_
         clear hg_ hnew_
         (first | rw [← Ny190.out] at ho76 | (simp only [Int.reduceToNat] at ho76; rw [← Ny190.out] at ho76))
         obtain ⟨n0_, n1_, n2_, n4_, n5_⟩ := zD5 (zt zG67 hb) (zah ho76 (keep_size (w := w) (g := g) (row := none) zG54)) (zq (g := gb142) (o := .cells (za5 1 t130 (wrap64 (1 + t133)) (wrap64 (1 + t136)) (wrap64 (x4_1 + t139))) 34 (0, 0)) zG59 hb) (zaa zG54 (zak hb g none) (.inl rfl)) (zu zK129 hb)
         have z_HI0 := fun (h0_ : b 1 = false) => (show IsS67 w0 w75 g s0_0 t144 t145 from by first | exact (IsS67.below zK114 hb))
         have z_HI0_e1 := fun (h0_ : b 1 = true) (h1_ : b 5 = false) => (show IsS67 w0 w75 g s0_0 t168 t169 from by first | exact (IsS67.below zK109 hb))
         have z_HO172 := fun (h0_ : b 4 = true) => (show Kd.R Kd.string 9 w75 w.heap.size (fun _ => True) v171 y170 from by first | exact (zt zK145 hb) | exact zn (zt zK145 hb) (fun _ h_ => by first | trivial | exact h_ | exact h_.1))
         have z_HI0_e5 := fun (h0_ : b 5 = true) (h1_ : b 8 = false) => (show IsS67 w0 w75 g s0_0 t174 t175 from by first | exact (IsS67.below zK110 hb))
         have z_HO178 := fun (h0_ : b 6 = true) => (show Kd.R (Kd.int .i64) 3 w75 w.heap.size (fun _ => True) v177 y176 from by first | exact (zag zG64 (zaj ho76) hb) | exact zn (zag zG64 (zaj ho76) hb) (fun _ h_ => by first | trivial | exact h_ | exact h_.1))
         have z_HI0_e8 := fun (h0_ : b 8 = true) (h1_ : b 13 = false) => (show IsS67 w0 w75 g s0_0 t180 t181 from by first | exact (IsS67.below zK111 hb))
         have z_HO185 := fun (h0_ : b 11 = true) => (show Kd.R (Kd.int .i64) 3 w75 w.heap.size (fun _ => True) v184 y183 from by first | exact (zag zG65 (zaj ho76) hb) | exact zn (zag zG65 (zaj ho76) hb) (fun _ h_ => by first | trivial | exact h_ | exact h_.1))
         have z_HI0_e13 := fun (h0_ : b 13 = true) (h1_ : b 19 = false) => (show IsS67 w0 w75 g s0_0 t187 t188 from by first | exact (IsS67.below zK108 hb))
         have z_HI0_e19 := fun (h0_ : b 19 = true) => (show IsS67 w0 w75 g s0_0 t194 t195 from by first | exact (IsS67.below zK112 hb))
         clear HO_3
         clear BK142
         clear HK
         clear HB
         have HO_3 := n0_
         have HO192 := n1_
         have BK142 := n2_
         have HK := n4_
         have HB := n5_
         clear n0_ n1_ n2_ n4_ n5_
         clear hb ho76
         obtain ⟨Ao77, co77, eo77⟩ := zab HO192.out
         subst eo77
         obtain ⟨ado77, fo77, _⟩ := zap (zy HO192.out).2.2 0 zG70 (by rw [Ny190.out]; simp)
         cases fo77
         refine hK.out _ _ ⟨v171, v177, adz_v177, v184, adz_v184, .slice (some ado77) y190.length co77, ado77, m9_, m14_, m20_, (by rw [ha.out]; exact putSel_upk 12 hb_ rfl rfl rfl), zG67, fun _ => zG59, z_HI0, zG54, zK129, z_HI0_e1, z_HO172, z_HI0_e5, z_HO178, Q_HA_HO178, z_HI0_e8, z_HO185, Q_HA_HO185, z_HI0_e13, fun _ => (by (with_reducible repeat (first | apply zj | apply zk | apply zl)); exact HO192.out), fun _ => ⟨_, rfl⟩, z_HI0_e19, fun h0_ => absurd ((hoff 23 zG69).symm.trans h0_) zG70, Q_X9_, Q_X14_, fun h0_ => absurd ((hoff 20 zG69).symm.trans h0_) zG70⟩
        refine steps_cons ?_ ?_
        ·rintro b a w' ⟨v171, v177, adz_v177, v184, adz_v184, v191, adz_v191, m9_, m14_, m20_, ha, Q_HO_3, Q_BK142, Q_HI0, Q_HK, Q_HB, Q_HI0_e1, Q_HO172, Q_HI0_e5, Q_HO178, Q_HA_HO178, Q_HI0_e8, Q_HO185, Q_HA_HO185, Q_HI0_e13, Q_HO192, Q_HA_HO192, Q_HI0_e19, Q_BK142_e23, Q_X9_, Q_X14_, Q_X20_⟩ hb_ hon hoff
         refine ⟨_, rfl, fun K hK => ?_⟩
         have e82 : a.tmps[82]? = some (.pointer (some ⟨g, 0, none⟩)) := by rw [ha]; exact (putSel_off rfl).trans rfl
         replace ha := za ha
         obtain ⟨HO_3, BK142, HK, HB, HO172, HI0⟩ := zD6 Q_HO_3 (Q_BK142 (hoff 23 zG69)) Q_HK Q_HB (Q_HO172 (hon 4 zG69)) (Q_HI0_e13 (hon 13 zG69) hb_)
         refine goes_ Try.func34 zG69 rfl #[.pointer (some ⟨g, 0, none⟩), .int .i64 4] (by rfl) rfl rfl (by first | (simp only [List.map_toArray, List.map_cons, List.map_nil, Act.eval, Array.getD_eq_getD_getElem?, Option.getD_some, e82]; done) | (simp only [List.map_toArray, List.map_cons, List.map_nil, Act.eval, Array.getD_eq_getD_getElem?, Option.getD_some, e82]; rfl)) ?_
         with_reducible refine (spec_l00Src_next.calls g s0_0 t187 t188 4 t193 t194 t195 w0 _ ?side1 ?side2 A70.out).mono ?_
         (case side1 => exact zH18)
         (case side2 => exact zH34)
         rintro e w83 ⟨rfl, hi, hb, hk⟩
         refine ⟨_, rfl, ?_⟩
         obtain ⟨n0_, n1_, n2_, n3_, n4_, n5_⟩ := zD6 (zn (zw (IsS67.apart (show IsS67 w0 _ g s0_0 t187 t188 from by repeat (first | (with_reducible first | exact HI0.out | apply IsS67.alloc | apply IsS67.drewN | apply IsS67.drew | apply IsS67.set_1 | apply IsS67.set_2 | refine IsS67.far ?_ (IsS67.ne_blk HI0.out BK142.out zG70) _ | refine IsS67.far ?_ NB0_142.out _) | exact HI0.out)) zG67 zG70) hk (fun _ h => h.2)) (fun _ h => h.1)) (zal hk (g' := gb142) (o := .cells (za5 1 t130 (wrap64 (1 + t133)) (wrap64 (1 + t136)) (wrap64 (x4_1 + t139))) 34 (0, 0)) zG59 NB142_0.out (by simp)) (zn (zw (IsS67.apart (show IsS67 w0 _ g s0_0 t187 t188 from by repeat (first | (with_reducible first | exact HI0.out | apply IsS67.alloc | apply IsS67.drewN | apply IsS67.drew | apply IsS67.set_1 | apply IsS67.set_2 | refine IsS67.far ?_ (IsS67.ne_blk HI0.out BK142.out zG70) _ | refine IsS67.far ?_ NB0_142.out _) | exact HI0.out)) zK150 zG70) hk (fun _ h => h.2)) (fun _ h => h.1)) (zaa zG54 hk (.inl rfl)) (hb) (hi)
         have z_HO178 := fun (h0_ : b 6 = true) => (show Kd.R (Kd.int .i64) 3 w83 w.heap.size (fun _ => True) v177 y176 from by first | exact (zn (zw (IsS67.apart (show IsS67 w0 _ g s0_0 t187 t188 from by repeat (first | (with_reducible first | exact HI0.out | apply IsS67.alloc | apply IsS67.drewN | apply IsS67.drew | apply IsS67.set_1 | apply IsS67.set_2 | refine IsS67.far ?_ (IsS67.ne_blk HI0.out BK142.out zG70) _ | refine IsS67.far ?_ NB0_142.out _) | exact HI0.out)) zG64 zG70) hk (fun _ h => h.2)) (fun _ h => h.1)) | exact zn (zn (zw (IsS67.apart (show IsS67 w0 _ g s0_0 t187 t188 from by repeat (first | (with_reducible first | exact HI0.out | apply IsS67.alloc | apply IsS67.drewN | apply IsS67.drew | apply IsS67.set_1 | apply IsS67.set_2 | refine IsS67.far ?_ (IsS67.ne_blk HI0.out BK142.out zG70) _ | refine IsS67.far ?_ NB0_142.out _) | exact HI0.out)) zG64 zG70) hk (fun _ h => h.2)) (fun _ h => h.1)) (fun _ h_ => by first | trivial | exact h_ | exact h_.1))
         have z_HO185 := fun (h0_ : b 11 = true) => (show Kd.R (Kd.int .i64) 3 w83 w.heap.size (fun _ => True) v184 y183 from by first | exact (zn (zw (IsS67.apart (show IsS67 w0 _ g s0_0 t187 t188 from by repeat (first | (with_reducible first | exact HI0.out | apply IsS67.alloc | apply IsS67.drewN | apply IsS67.drew | apply IsS67.set_1 | apply IsS67.set_2 | refine IsS67.far ?_ (IsS67.ne_blk HI0.out BK142.out zG70) _ | refine IsS67.far ?_ NB0_142.out _) | exact HI0.out)) zG65 zG70) hk (fun _ h => h.2)) (fun _ h => h.1)) | exact zn (zn (zw (IsS67.apart (show IsS67 w0 _ g s0_0 t187 t188 from by repeat (first | (with_reducible first | exact HI0.out | apply IsS67.alloc | apply IsS67.drewN | apply IsS67.drew | apply IsS67.set_1 | apply IsS67.set_2 | refine IsS67.far ?_ (IsS67.ne_blk HI0.out BK142.out zG70) _ | refine IsS67.far ?_ NB0_142.out _) | exact HI0.out)) zG65 zG70) hk (fun _ h => h.2)) (fun _ h => h.1)) (fun _ h_ => by first | trivial | exact h_ | exact h_.1))
         have z_HO192 := fun (h0_ : b 17 = true) => (show Kd.R (Kd.int .i64) 3 w83 w.heap.size (fun _ => True) v191 y190 from by first | exact (zn (zw (IsS67.apart (show IsS67 w0 _ g s0_0 t187 t188 from by repeat (first | (with_reducible first | exact HI0.out | apply IsS67.alloc | apply IsS67.drewN | apply IsS67.drew | apply IsS67.set_1 | apply IsS67.set_2 | refine IsS67.far ?_ (IsS67.ne_blk HI0.out BK142.out zG70) _ | refine IsS67.far ?_ NB0_142.out _) | exact HI0.out)) zG66 zG70) hk (fun _ h => h.2)) (fun _ h => h.1)) | exact zn (zn (zw (IsS67.apart (show IsS67 w0 _ g s0_0 t187 t188 from by repeat (first | (with_reducible first | exact HI0.out | apply IsS67.alloc | apply IsS67.drewN | apply IsS67.drew | apply IsS67.set_1 | apply IsS67.set_2 | refine IsS67.far ?_ (IsS67.ne_blk HI0.out BK142.out zG70) _ | refine IsS67.far ?_ NB0_142.out _) | exact HI0.out)) zG66 zG70) hk (fun _ h => h.2)) (fun _ h => h.1)) (fun _ h_ => by first | trivial | exact h_ | exact h_.1))
         clear HO_3
         clear BK142
         clear HO172
         clear HK
         clear HB
         clear HI0
         have HO_3 := n0_
         have BK142 := n1_
         have HO172 := n2_
         have HK := n3_
         have HB := n4_
         have HI0 := n5_
         clear n0_ n1_ n2_ n3_ n4_ n5_
         (try clear hb)
         (try clear hb2)
         (try clear hk)
         (try clear hi)
         refine hK.out _ _ ⟨v171, v177, adz_v177, v184, adz_v184, v191, adz_v191, m9_, m14_, m20_, (by rw [ha.out]; exact putSel_upk 13 hb_ rfl rfl rfl), zG67, fun _ => zG59, fun h0_ => absurd ((hon 1 zG69).symm.trans h0_) zG70, zG54, zG55, fun _ h1_ => absurd ((hon 5 zG69).symm.trans h1_) zG70, fun _ => zK150, fun _ h1_ => absurd ((hon 8 zG69).symm.trans h1_) zG70, z_HO178, Q_HA_HO178, fun _ h1_ => absurd ((hon 13 zG69).symm.trans h1_) zG70, z_HO185, Q_HA_HO185, fun _ h1_ => absurd ((up_self b 19).symm.trans h1_) zG70, z_HO192, Q_HA_HO192, fun _ => zK105, fun h0_ => absurd ((hoff 23 zG69).symm.trans h0_) zG70, Q_X9_, Q_X14_, fun h0_ => absurd ((hoff 20 zG69).symm.trans h0_) zG70⟩
        refine steps_cons ?_ ?_
        ·rintro b a w' ⟨v171, v177, adz_v177, v184, adz_v184, v191, adz_v191, m9_, m14_, m20_, ha, Q_HO_3, Q_BK142, Q_HI0, Q_HK, Q_HB, Q_HI0_e1, Q_HO172, Q_HI0_e5, Q_HO178, Q_HA_HO178, Q_HI0_e8, Q_HO185, Q_HA_HO185, Q_HI0_e13, Q_HO192, Q_HA_HO192, Q_HI0_e19, Q_BK142_e23, Q_X9_, Q_X14_, Q_X20_⟩ hb_ hon hoff
         refine ⟨_, rfl, fun K hK => ?_⟩
         have e81 : a.tmps[81]? = some (v191) := by rw [ha]; exact putSel_on (e := (17, 81, v191)) 12 rfl rfl (hon 17 zG69) rfl
         have e83 : a.tmps[83]? = some (.int .i64 t193) := by rw [ha]; exact putSel_on (e := (19, 83, .int .i64 t193)) 13 rfl rfl (hon 19 zG69) rfl
         replace ha := za ha
         obtain ⟨HO_3, BK142, HK, HB, HO172, HO192, HA_HO192, HI0⟩ := zD8 Q_HO_3 (Q_BK142 (hoff 23 zG69)) Q_HK Q_HB (Q_HO172 (hon 4 zG69)) (Q_HO192 (hon 17 zG69)) (Q_HA_HO192 (hon 17 zG69)) (Q_HI0_e19 (hon 19 zG69))
         obtain ⟨c_, hv_⟩ := HA_HO192.out
         rw [hv_] at e81
         refine value_ (w1 := w') (v := .pointer (some (adz_v191.add (t193).toNat))) (by rfl) rfl ?_ ?_
         ·go_simp
          (try simp only [i64_w])
          try rfl
         refine hK.out _ _ ⟨v171, v177, adz_v177, v184, adz_v184, v191, adz_v191, m9_, m14_, (.pointer (some (adz_v191.add (t193).toNat))), (by rw [ha.out]; exact putSel_upk 14 hb_ rfl rfl rfl), Q_HO_3, Q_BK142, fun h0_ => absurd ((hon 1 zG69).symm.trans h0_) zG70, Q_HK, Q_HB, fun _ h1_ => absurd ((hon 5 zG69).symm.trans h1_) zG70, Q_HO172, fun _ h1_ => absurd ((hon 8 zG69).symm.trans h1_) zG70, Q_HO178, Q_HA_HO178, fun _ h1_ => absurd ((hon 13 zG69).symm.trans h1_) zG70, Q_HO185, Q_HA_HO185, fun _ h1_ => absurd ((hon 19 zG69).symm.trans h1_) zG70, Q_HO192, Q_HA_HO192, Q_HI0_e19, fun h0_ => absurd ((hoff 23 zG69).symm.trans h0_) zG70, Q_X9_, Q_X14_, fun _ => rfl⟩
        refine steps_cons ?_ ?_
        ·rintro b a w' ⟨v171, v177, adz_v177, v184, adz_v184, v191, adz_v191, m9_, m14_, m20_, ha, Q_HO_3, Q_BK142, Q_HI0, Q_HK, Q_HB, Q_HI0_e1, Q_HO172, Q_HI0_e5, Q_HO178, Q_HA_HO178, Q_HI0_e8, Q_HO185, Q_HA_HO185, Q_HI0_e13, Q_HO192, Q_HA_HO192, Q_HI0_e19, Q_BK142_e23, Q_X9_, Q_X14_, Q_X20_⟩ hb_ hon hoff
         refine ⟨_, rfl, fun K hK => ?_⟩
         have e84 : a.tmps[84]? = some (m20_) := by rw [ha]; exact putSel_on (e := (20, 84, m20_)) 14 rfl rfl (hon 20 zG69) rfl
         rw [Q_X20_ (hon 20 zG69)] at e84
         replace ha := za ha
         obtain ⟨HO_3, BK142, HK, HB, HO172, HO192, HA_HO192, HI0⟩ := zD8 Q_HO_3 (Q_BK142 (hoff 23 zG69)) Q_HK Q_HB (Q_HO172 (hon 4 zG69)) (Q_HO192 (hon 17 zG69)) (Q_HA_HO192 (hon 17 zG69)) (Q_HI0_e19 (hon 19 zG69))
         obtain ⟨c_, hv_⟩ := HA_HO192.out
         have hF_ := HO192.out
         rw [hv_] at hF_
         obtain ⟨ad_, ea_, hx_⟩ := zap (zy hF_).2.2 t193 (of_eq_true pi196) (of_eq_true qi196)
         cases ea_
         refine value_ (w1 := w') (v := .int .i64 (rd y190 t193)) (by rfl) rfl ?_ ?_
         ·go_simp
          (try simp only [i64_w])
          try rfl
         refine hK.out _ _ ⟨v171, v177, adz_v177, v184, adz_v184, v191, adz_v191, m9_, m14_, m20_, (by rw [ha.out]; exact putSel_upk 15 hb_ rfl rfl rfl), Q_HO_3, Q_BK142, fun h0_ => absurd ((hon 1 zG69).symm.trans h0_) zG70, Q_HK, Q_HB, fun _ h1_ => absurd ((hon 5 zG69).symm.trans h1_) zG70, Q_HO172, fun _ h1_ => absurd ((hon 8 zG69).symm.trans h1_) zG70, Q_HO178, Q_HA_HO178, fun _ h1_ => absurd ((hon 13 zG69).symm.trans h1_) zG70, Q_HO185, Q_HA_HO185, fun _ h1_ => absurd ((hon 19 zG69).symm.trans h1_) zG70, Q_HO192, Q_HA_HO192, Q_HI0_e19, fun h0_ => absurd ((hoff 23 zG69).symm.trans h0_) zG70, Q_X9_, Q_X14_, Q_X20_⟩
        refine steps_cons ?_ ?_
        ·rintro b a w' ⟨v171, v177, adz_v177, v184, adz_v184, v191, adz_v191, m9_, m14_, m20_, ha, Q_HO_3, Q_BK142, Q_HI0, Q_HK, Q_HB, Q_HI0_e1, Q_HO172, Q_HI0_e5, Q_HO178, Q_HA_HO178, Q_HI0_e8, Q_HO185, Q_HA_HO185, Q_HI0_e13, Q_HO192, Q_HA_HO192, Q_HI0_e19, Q_BK142_e23, Q_X9_, Q_X14_, Q_X20_⟩ hb_ hon hoff
         refine ⟨_, rfl, fun K hK => ?_⟩
         have e66 : a.tmps[66]? = some (.int .i64 (wrap64 (t167 - 1))) := by rw [ha]; exact putSel_on (e := (2, 66, .int .i64 (wrap64 (t167 - 1)))) 1 rfl rfl (hon 2 zG69) rfl
         have e69 : a.tmps[69]? = some (.string t173) := by rw [ha]; exact putSel_on (e := (5, 69, .string t173)) 3 rfl rfl (hon 5 zG69) rfl
         have e74 : a.tmps[74]? = some (.int .i64 (rd y176 t179)) := by rw [ha]; exact putSel_on (e := (10, 74, .int .i64 (rd y176 t179))) 7 rfl rfl (hon 10 zG69) rfl
         have e79 : a.tmps[79]? = some (.int .i64 (rd y183 t186)) := by rw [ha]; exact putSel_on (e := (15, 79, .int .i64 (rd y183 t186))) 11 rfl rfl (hon 15 zG69) rfl
         have e85 : a.tmps[85]? = some (.int .i64 (rd y190 t193)) := by rw [ha]; exact putSel_on (e := (21, 85, .int .i64 (rd y190 t193))) 15 rfl rfl (hon 21 zG69) rfl
         replace ha := za ha
         obtain ⟨HO_3, BK142, HK, HB, HO172, HO178, HA_HO178, HO185, HA_HO185, HO192, HA_HO192, HI0⟩ := zD12 Q_HO_3 (Q_BK142 (hoff 23 zG69)) Q_HK Q_HB (Q_HO172 (hon 4 zG69)) (Q_HO178 (hon 6 zG69)) (Q_HA_HO178 (hon 6 zG69)) (Q_HO185 (hon 11 zG69)) (Q_HA_HO185 (hon 11 zG69)) (Q_HO192 (hon 17 zG69)) (Q_HA_HO192 (hon 17 zG69)) (Q_HI0_e19 (hon 19 zG69))
         refine value_ (w1 := w') (v := .agg (za5 (wrap64 (t167 - 1)) t173 (rd y176 t179) (rd y183 t186) (rd y190 t193))) (by rfl) rfl ?_ ?_
         ·go_simp
          (try simp only [i64_w])
          try rfl
         refine hK.out _ _ ⟨v171, v177, adz_v177, v184, adz_v184, v191, adz_v191, m9_, m14_, m20_, (by rw [ha.out]; exact putSel_upk 16 hb_ rfl rfl rfl), Q_HO_3, Q_BK142, fun h0_ => absurd ((hon 1 zG69).symm.trans h0_) zG70, Q_HK, Q_HB, fun _ h1_ => absurd ((hon 5 zG69).symm.trans h1_) zG70, Q_HO172, fun _ h1_ => absurd ((hon 8 zG69).symm.trans h1_) zG70, Q_HO178, Q_HA_HO178, fun _ h1_ => absurd ((hon 13 zG69).symm.trans h1_) zG70, Q_HO185, Q_HA_HO185, fun _ h1_ => absurd ((hon 19 zG69).symm.trans h1_) zG70, Q_HO192, Q_HA_HO192, Q_HI0_e19, fun h0_ => absurd ((hoff 23 zG69).symm.trans h0_) zG70, Q_X9_, Q_X14_, Q_X20_⟩
        refine steps_cons ?_ ?_
        ·rintro b a w' ⟨v171, v177, adz_v177, v184, adz_v184, v191, adz_v191, m9_, m14_, m20_, ha, Q_HO_3, Q_BK142, Q_HI0, Q_HK, Q_HB, Q_HI0_e1, Q_HO172, Q_HI0_e5, Q_HO178, Q_HA_HO178, Q_HI0_e8, Q_HO185, Q_HA_HO185, Q_HI0_e13, Q_HO192, Q_HA_HO192, Q_HI0_e19, Q_BK142_e23, Q_X9_, Q_X14_, Q_X20_⟩ hb_ hon hoff
         refine ⟨_, rfl, fun K hK => ?_⟩
         have e6 : a.tmps[6]? = some (.pointer (some ⟨gb142, 0, none⟩)) := by rw [ha]; exact (putSel_off rfl).trans rfl
         have e86 : a.tmps[86]? = some (.agg (za5 (wrap64 (t167 - 1)) t173 (rd y176 t179) (rd y183 t186) (rd y190 t193))) := by rw [ha]; exact putSel_on (e := (22, 86, .agg (za5 (wrap64 (t167 - 1)) t173 (rd y176 t179) (rd y183 t186) (rd y190 t193)))) 16 rfl rfl (hon 22 zG69) rfl
         replace ha := za ha
         obtain ⟨HO_3, BK142, HK, HB, HO172, HO178, HA_HO178, HO185, HA_HO185, HO192, HA_HO192, HI0⟩ := zD12 Q_HO_3 (Q_BK142 hb_) Q_HK Q_HB (Q_HO172 (hon 4 zG69)) (Q_HO178 (hon 6 zG69)) (Q_HA_HO178 (hon 6 zG69)) (Q_HO185 (hon 11 zG69)) (Q_HA_HO185 (hon 11 zG69)) (Q_HO192 (hon 17 zG69)) (Q_HA_HO192 (hon 17 zG69)) (Q_HI0_e19 (hon 19 zG69))
         obtain ⟨co93, eo93⟩ := HA_HO178.out
         clear HA_HO178
         subst eo93
         obtain ⟨co94, eo94⟩ := HA_HO185.out
         clear HA_HO185
         subst eo94
         obtain ⟨co95, eo95⟩ := HA_HO192.out
         clear HA_HO192
         subst eo95
         have hs96 : w'.cell? ⟨gb142, 0, none⟩ = some (.int .i64 1) := (blk_cell BK142.out 0).trans rfl
         have hfs96 := zd BK142.out 0
         have hs97 : w'.cell? ⟨gb142, 1, none⟩ = some (.string t130) := (blk_cell BK142.out 1).trans rfl
         have hfs97 := zd BK142.out 1
         have hs98 : w'.cell? ⟨gb142, 2, none⟩ = some (.int .i64 (wrap64 (1 + t133))) := (blk_cell BK142.out 2).trans rfl
         have hfs98 := zd BK142.out 2
         have hs99 : w'.cell? ⟨gb142, 3, none⟩ = some (.int .i64 (wrap64 (1 + t136))) := (blk_cell BK142.out 3).trans rfl
         have hfs99 := zd BK142.out 3
         have hs100 : w'.cell? ⟨gb142, 4, none⟩ = some (.int .i64 (wrap64 (x4_1 + t139))) := (blk_cell BK142.out 4).trans rfl
         have hfs100 := zd BK142.out 4
         refine skip_ (w1 := ?_) (by rfl) rfl ?_ ?_
         rotate_left
         ·go_simp
          rfl
         refine hK.out _ _ ⟨v171, .slice (some adz_v177) y176.length co93, adz_v177, .slice (some adz_v184) y183.length co94, adz_v184, .slice (some adz_v191) y190.length co95, adz_v191, m9_, m14_, m20_, (by rw [ha.out]; exact putSel_none (v := undef) rfl), (by (with_reducible repeat (first | apply zj | apply zk | apply zl)); exact zn (zm (p := ⟨gb142, 4, none⟩) (zm (p := ⟨gb142, 3, none⟩) (zm (p := ⟨gb142, 2, none⟩) (zm (p := ⟨gb142, 1, none⟩) (zm (p := ⟨gb142, 0, none⟩) (zn HO_3.out (fun k_ hk => (⟨hk, hk⟩ : _ ∧ k_ ≠ gb142))) (fun _ hk => hk.2) (.int .i64 (wrap64 (t167 - 1)))) (fun _ hk => hk.2) (.string t173)) (fun _ hk => hk.2) (.int .i64 (rd y176 t179))) (fun _ hk => hk.2) (.int .i64 (rd y183 t186))) (fun _ hk => hk.2) (.int .i64 (rd y190 t193))) (fun _ hk => hk.1)), fun h0_ => absurd ((up_self b 23).symm.trans h0_) zG70, fun h0_ => absurd ((hon 1 zG69).symm.trans h0_) zG70, zG54, zG55, fun _ h1_ => absurd ((hon 5 zG69).symm.trans h1_) zG70, fun _ => (by (with_reducible repeat (first | apply zj | apply zk | apply zl)); exact zn (zm (p := ⟨gb142, 4, none⟩) (zm (p := ⟨gb142, 3, none⟩) (zm (p := ⟨gb142, 2, none⟩) (zm (p := ⟨gb142, 1, none⟩) (zm (p := ⟨gb142, 0, none⟩) (zz HO172.out BK142.out zG70) (fun _ hk => hk.2) (.int .i64 (wrap64 (t167 - 1)))) (fun _ hk => hk.2) (.string t173)) (fun _ hk => hk.2) (.int .i64 (rd y176 t179))) (fun _ hk => hk.2) (.int .i64 (rd y183 t186))) (fun _ hk => hk.2) (.int .i64 (rd y190 t193))) (fun _ hk => trivial)), fun _ h1_ => absurd ((hon 8 zG69).symm.trans h1_) zG70, fun _ => (by (with_reducible repeat (first | apply zj | apply zk | apply zl)); exact zn (zm (p := ⟨gb142, 4, none⟩) (zm (p := ⟨gb142, 3, none⟩) (zm (p := ⟨gb142, 2, none⟩) (zm (p := ⟨gb142, 1, none⟩) (zm (p := ⟨gb142, 0, none⟩) (zz HO178.out BK142.out zG70) (fun _ hk => hk.2) (.int .i64 (wrap64 (t167 - 1)))) (fun _ hk => hk.2) (.string t173)) (fun _ hk => hk.2) (.int .i64 (rd y176 t179))) (fun _ hk => hk.2) (.int .i64 (rd y183 t186))) (fun _ hk => hk.2) (.int .i64 (rd y190 t193))) (fun _ hk => trivial)), fun _ => ⟨_, rfl⟩, fun _ h1_ => absurd ((hon 13 zG69).symm.trans h1_) zG70, fun _ => (by (with_reducible repeat (first | apply zj | apply zk | apply zl)); exact zn (zm (p := ⟨gb142, 4, none⟩) (zm (p := ⟨gb142, 3, none⟩) (zm (p := ⟨gb142, 2, none⟩) (zm (p := ⟨gb142, 1, none⟩) (zm (p := ⟨gb142, 0, none⟩) (zz HO185.out BK142.out zG70) (fun _ hk => hk.2) (.int .i64 (wrap64 (t167 - 1)))) (fun _ hk => hk.2) (.string t173)) (fun _ hk => hk.2) (.int .i64 (rd y176 t179))) (fun _ hk => hk.2) (.int .i64 (rd y183 t186))) (fun _ hk => hk.2) (.int .i64 (rd y190 t193))) (fun _ hk => trivial)), fun _ => ⟨_, rfl⟩, fun _ h1_ => absurd ((hon 19 zG69).symm.trans h1_) zG70, fun _ => (by (with_reducible repeat (first | apply zj | apply zk | apply zl)); exact zn (zm (p := ⟨gb142, 4, none⟩) (zm (p := ⟨gb142, 3, none⟩) (zm (p := ⟨gb142, 2, none⟩) (zm (p := ⟨gb142, 1, none⟩) (zm (p := ⟨gb142, 0, none⟩) (zz HO192.out BK142.out zG70) (fun _ hk => hk.2) (.int .i64 (wrap64 (t167 - 1)))) (fun _ hk => hk.2) (.string t173)) (fun _ hk => hk.2) (.int .i64 (rd y176 t179))) (fun _ hk => hk.2) (.int .i64 (rd y183 t186))) (fun _ hk => hk.2) (.int .i64 (rd y190 t193))) (fun _ hk => trivial)), fun _ => ⟨_, rfl⟩, fun _ => zK105, fun _ => (by (with_reducible repeat (first | refine zc ?_ _ | refine ze ?_ | refine zb ?_ _)); refine zr (cs := (za5 (wrap64 (t167 - 1)) t173 (rd y176 t179) (rd y183 t186) (wrap64 (x4_1 + t139)))) ?_ 4 _ rfl; (with_reducible repeat (first | refine zc ?_ _ | refine ze ?_ | refine zb ?_ _)); refine zr (cs := (za5 (wrap64 (t167 - 1)) t173 (rd y176 t179) (wrap64 (1 + t136)) (wrap64 (x4_1 + t139)))) ?_ 3 _ rfl; (with_reducible repeat (first | refine zc ?_ _ | refine ze ?_ | refine zb ?_ _)); refine zr (cs := (za5 (wrap64 (t167 - 1)) t173 (wrap64 (1 + t133)) (wrap64 (1 + t136)) (wrap64 (x4_1 + t139)))) ?_ 2 _ rfl; (with_reducible repeat (first | refine zc ?_ _ | refine ze ?_ | refine zb ?_ _)); refine zr (cs := (za5 (wrap64 (t167 - 1)) t130 (wrap64 (1 + t133)) (wrap64 (1 + t136)) (wrap64 (x4_1 + t139)))) ?_ 1 _ rfl; (with_reducible repeat (first | refine zc ?_ _ | refine ze ?_ | refine zb ?_ _)); refine zr (cs := (za5 1 t130 (wrap64 (1 + t133)) (wrap64 (1 + t136)) (wrap64 (x4_1 + t139)))) ?_ 0 _ rfl; (with_reducible repeat (first | refine zc ?_ _ | refine ze ?_ | refine zb ?_ _)); exact BK142.out), Q_X9_, Q_X14_, Q_X20_⟩
        exact steps_nil
       rintro b a w97 hall ⟨v171, v177, adz_v177, v184, adz_v184, v191, adz_v191, m9_, m14_, m20_, ha, Q_HO_3, Q_BK142, Q_HI0, Q_HK, Q_HB, Q_HI0_e1, Q_HO172, Q_HI0_e5, Q_HO178, Q_HA_HO178, Q_HI0_e8, Q_HO185, Q_HA_HO185, Q_HI0_e13, Q_HO192, Q_HA_HO192, Q_HI0_e19, Q_BK142_e23, Q_X9_, Q_X14_, Q_X20_⟩
       clear BK142 HB HI0 HK HO_3
       have hb1_ := hall 1 zG69
       have hb2_ := hall 2 zG69
       have hb4_ := hall 4 zG69
       have hb5_ := hall 5 zG69
       have hb6_ := hall 6 zG69
       have hb8_ := hall 8 zG69
       have hb9_ := hall 9 zG69
       have hb10_ := hall 10 zG69
       have hb11_ := hall 11 zG69
       have hb13_ := hall 13 zG69
       have hb14_ := hall 14 zG69
       have hb15_ := hall 15 zG69
       have hb17_ := hall 17 zG69
       have hb19_ := hall 19 zG69
       have hb20_ := hall 20 zG69
       have hb21_ := hall 21 zG69
       have hb22_ := hall 22 zG69
       have hb23_ := hall 23 zG69
       subst ha
       obtain rfl := Q_X9_ hb9_
       obtain rfl := Q_X14_ hb14_
       obtain rfl := Q_X20_ hb20_
       simp only [putSel, hb1_, hb2_, hb4_, hb5_, hb6_, hb8_, hb9_, hb10_, hb11_, hb13_, hb14_, hb15_, hb17_, hb19_, hb20_, hb21_, hb22_, hb23_, if_true, Act.put, List.setIfInBounds_toArray, List.set_cons_zero, List.set_cons_succ]
       obtain ⟨HO_3, HK, HB, HO172, HO178, HA_HO178, HO185, HA_HO185, HO192, HA_HO192, HI0, BK142⟩ := zD12 Q_HO_3 Q_HK Q_HB (Q_HO172 hb4_) (Q_HO178 hb6_) (Q_HA_HO178 hb6_) (Q_HO185 hb11_) (Q_HA_HO185 hb11_) (Q_HO192 hb17_) (Q_HA_HO192 hb17_) (Q_HI0_e19 hb19_) (Q_BK142_e23 hb23_)
       clear Q_HO_3 Q_BK142 Q_HI0 Q_HK Q_HB Q_HI0_e1 Q_HO172 Q_HI0_e5 Q_HO178 Q_HA_HO178 Q_HI0_e8 Q_HO185 Q_HA_HO185 Q_HI0_e13 Q_HO192 Q_HA_HO192 Q_HI0_e19 Q_BK142_e23 hall hb1_ hb2_ hb4_ hb5_ hb6_ hb8_ hb9_ hb10_ hb11_ hb13_ hb14_ hb15_ hb17_ hb19_ hb20_ hb21_ hb22_ hb23_
       obtain ⟨co98, eo98⟩ := HA_HO178.out
       clear HA_HO178
       subst eo98
       obtain ⟨co99, eo99⟩ := HA_HO185.out
       clear HA_HO185
       subst eo99
       obtain ⟨co100, eo100⟩ := HA_HO192.out
       clear HA_HO192
       subst eo100
       have hnb101 := NB142_0.out
       have hnc101 := NB0_142.out
       obtain ⟨hcz102_0, hcz102_1, hcz102_2, hcz102_3, hcz102_4, hfz102_0, hfz102_1, hfz102_2, hfz102_3, hfz102_4⟩ := zB5 BK142.out
       try go_wp2_with (first | ((with_reducible refine gate_builtin (b := .append) (xs := #[.tmp 87, .tmp 89]) rfl ?_); at_builtin; refine zas k34 w.heap.size rfl (.tmp 87) (.tmp 89) 23 34 (.agg #[(.int .i64 0), (.string ⟨#[]⟩), (.int .i64 0), (.int .i64 0), (.int .i64 0)]) 48 rfl Try.underlying23 info34 rfl zG70 (by omega) u3 x3_1 (⟨wrap64 (t167 - 1), t173, rd y176 t179, rd y183 t186, rd y190 t193⟩ : S34) [.int .i64 (wrap64 (t167 - 1)), .string t173, .int .i64 (rd y176 t179), .int .i64 (rd y183 t186), .int .i64 (rd y190 t193)] (fun k_ => k_ ≠ gb142) (fun _ => False) rfl rfl ?aP (fun _ hk => hk.elim) ?aF ?aO (Below.refl _ _) ?aS ?aL ?_; (case aP => exact k34_mkM _ _ _ (⟨wrap64 (t167 - 1), t173, rd y176 t179, rd y183 t186, rd y190 t193⟩ : S34)); (case aF => exact (fun k_ hk => Kd.freshB (g := gb142) (o := .cells (za5 (wrap64 (t167 - 1)) t173 (rd y176 t179) (rd y183 t186) (rd y190 t193)) 34 (0, 0)) zG59 k_ hk)); (case aO => exact zG67); (case aS => exact zH79); (case aL => have := LMc73.out; omega); intro v198 w103 ho hb hg hat; rw [← Ny197.out] at ho; have n_ := zA_ (za (zam (g := gb142) (o := .cells (za5 (wrap64 (t167 - 1)) t173 (rd y176 t179) (rd y183 t186) (rd y190 t193)) 34 (0, 0)) zG59 hg (Kd.R_away HO_3.out (fun _ hk => hk)))) (zA_ (za (IsS67.grown (show IsS67 w0 _ g s0_0 t194 t195 from by repeat (first | (with_reducible first | exact HI0.out | apply IsS67.alloc | apply IsS67.drewN | apply IsS67.drew | apply IsS67.set_1 | apply IsS67.set_2 | refine IsS67.far ?_ (IsS67.ne_blk HI0.out BK142.out zG70) _ | refine IsS67.far ?_ NB0_142.out _) | exact HI0.out)) hg (IsS67.own_ne HI0.out HO_3.out zG70))) (zA_ (za (zay zK150 (zav zG67) zG70 hg)) (zA_ (za (zay (by (with_reducible repeat (first | apply zj | apply zk | apply zl)); exact HO178.out) (zav zG67) zG70 hg)) (zA_ (za (zay (by (with_reducible repeat (first | apply zj | apply zk | apply zl)); exact HO185.out) (zav zG67) zG70 hg)) (zA_ (za (zay (by (with_reducible repeat (first | apply zj | apply zk | apply zl)); exact HO192.out) (zav zG67) zG70 hg)) (zA_ (za (zar zG55 HL.out hb)) (zA_ (za (zaa zG54 (zaq hg g) (zax HO_3.out))) (za (ho))))))))); clear BK142 HI0 HO172 HO178 HO185 HO192 HB HK HO_3; obtain ⟨BK142, HI0, HO172, HO178, HO185, HO192, HB, HK, HO199⟩ := n_; clear ho hb hg hat))
       go_roundg kj48
       case measure => have := HK1.out; have := HJ13.out; have := HJ48.out; omega
       case rel => exact ⟨(y197), (x4_1), (wrap64 (x5_1 - 1)), (t194), (t195), zG68, zG68, H', ⟨zH76⟩, ⟨by (with_reducible repeat (first | apply zj | apply zk | apply zl)); exact zn HO199.out (fun _ hk => trivial)⟩, ⟨zH17⟩, ⟨zH31⟩, ⟨zH33⟩⟩
end Go.Proofs.Ytnkceaibkfbeaaa.F
