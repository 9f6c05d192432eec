-- squeezed
-- made by pp.py (wip/tools) out of the translation; Lean checks it
import Derived.Test.YtojncbpeeboooaaX0
import Derived.Test.YtojncbpeeboooaaX1
namespace Go.Proofs.Ytojncbpeeboooaa.X
open Go.RowKit Go.Proofs.YtojncbpeeboooaaW.PrintWords Go.Proofs.YtojncbpeeboooaaW.PrintLast Go.Proofs.YtojncbpeeboooaaW.PrintMore
attribute [local go_sem] max2_int min2_int max_two min_two max_three min_three max_four min_four   -- for this text's walks alone
set_option linter.unusedVariables false
set_option linter.unusedSimpArgs false


/-! ### spec_l00Src_stocked: function 77 -/
def spec_l00Src_stocked.l0 : Nat → Int → List (S124) → List ByteArray → Int → List Int → Int → Int → Option ((List (S124)) × Int × Int)
 | 0, _, _, _, _, _, _, _ => none
 | k + 1, x1, x5, x6, x7, x1000, x1001, x1002 => if x7 < 5 then ((spec_l00Src_chance.f x1000 x1001 x1002 2).bind fun bt131 => (if bt131.1 = true then (if 0 ≤ x7 then (if x7 < (x6.length : Int) then ((spec_l00Src_next.f x1000 bt131.2.1 bt131.2.2 x1).bind fun bt135 => (if x5.length < 5864062014805 then (spec_l00Src_stocked.l0 k x1 (x5 ++ [(⟨rdOf ByteArray.empty x6 x7, wrap64 (1 + bt135.1)⟩ : S124)]) x6 (wrap64 (x7 + 1)) x1000 bt135.2.1 bt135.2.2) else (none))) else (none)) else (none)) else (spec_l00Src_stocked.l0 k x1 x5 x6 (wrap64 (x7 + 1)) x1000 bt131.2.1 bt131.2.2))) else (some (x5, x1001, x1002))
def spec_l00Src_stocked.f (k : Nat) (s0_0 : List Int) (s0_1 : Int) (s0_2 : Int) (a1 : Int) : Option ((List (S124)) × Int × Int) := spec_l00Src_stocked.l0 k a1 (([] : List (S124))) (([(⟨#[109, 105, 108, 107]⟩ : ByteArray), (⟨#[98, 114, 111, 116]⟩ : ByteArray), (⟨#[107, 195, 164, 115, 101]⟩ : ByteArray), (⟨#[120]⟩ : ByteArray), (⟨#[121, 95, 50]⟩ : ByteArray)] : List ByteArray)) 0 s0_0 s0_1 s0_2
theorem spec_l00Src_stocked.mono_l : ∀ k, (∀ y0 y1 y2 y3 y4 y5 y6, LeO (spec_l00Src_stocked.l0 k y0 y1 y2 y3 y4 y5 y6) (spec_l00Src_stocked.l0 (k + 1) y0 y1 y2 y3 y4 y5 y6))
 | 0 => fun _ _ _ _ _ _ _ r h => by simp [spec_l00Src_stocked.l0] at h
 | k + 1 => by
  have ih0 := spec_l00Src_stocked.mono_l k
  ·intro y0 y1 y2 y3 y4 y5 y6
   unfold spec_l00Src_stocked.l0
   repeat' first
   | (with_reducible exact ih0 _ _ _ _ _ _ _)
   | (with_reducible exact LeO.refl _)
   | (with_reducible exact LeO.none _)
   | (with_reducible refine LeO.ite ?_ ?_)
   | (with_reducible refine LeO.bind ?_ (fun _ => ?_))
   | exact ih0 _ _ _ _ _ _ _
   | exact LeO.none _
   | refine LeO.ite ?_ ?_
   | refine LeO.bind ?_ (fun _ => ?_)
theorem spec_l00Src_stocked.mono : ∀ a0 a1 a2 a3 k, LeO (spec_l00Src_stocked.f k a0 a1 a2 a3) (spec_l00Src_stocked.f (k + 1) a0 a1 a2 a3) := by
 intro a0 a1 a2 a3 k
 have ih0 := spec_l00Src_stocked.mono_l k
 unfold spec_l00Src_stocked.f
 repeat' first
   | (with_reducible exact ih0 _ _ _ _ _ _ _)
   | (with_reducible exact LeO.refl _)
   | (with_reducible exact LeO.none _)
   | (with_reducible refine LeO.ite ?_ ?_)
   | (with_reducible refine LeO.bind ?_ (fun _ => ?_))
   | exact ih0 _ _ _ _ _ _ _
   | exact LeO.none _
   | refine LeO.ite ?_ ?_
   | refine LeO.bind ?_ (fun _ => ?_)
def spec_l00Src_stocked.T7 : Bool × List (List Nat × List Nat) := (true, [([], []), ([], []), ([], []), ([1, 2], [1, 2]), ([3], [3]), ([], []), ([], []), ([5, 6], [5, 6]), ([7], [7]), ([4, 8], [4, 8]), ([9], [9]), ([0, 10, 7], [0, 10]), ([11, 11, 0, 1, 2, 3, 4, 5, 6, 7, 8, 9, 10, 11], [0, 11])])
def spec_l00Src_stocked.B7 : List Nat := [0, 0, 0, 6, 14, 0, 0, 96, 224, 510, 1022, 2047, 4095]
theorem spec_l00Src_stocked.tab7 : rtab .any (opsOf Try.f77 7) = spec_l00Src_stocked.T7 := by kernel_rfl
theorem spec_l00Src_stocked.bits7 : waitsOk spec_l00Src_stocked.T7.2 spec_l00Src_stocked.B7 = true := by kernel_rfl
set_option maxHeartbeats 64000000 in
set_option maxRecDepth 100000 in
theorem spec_l00Src_stocked.calls (k : Nat) (g : Nat) (s0_0 : List Int) (s0_1 : Int) (s0_2 : Int) (a1 : Int) (r1 : List (S124)) (r2 : Int) (r3 : Int) (w0 w : World) (hI : IsS168 w0 w g s0_0 s0_1 s0_2) (hB : Below w0.heap.size w0 w) (h : spec_l00Src_stocked.f k s0_0 s0_1 s0_2 a1 = some (r1, r2, r3)) :
  Calls Try.prog 77 #[.pointer (some ⟨g, 0, none⟩), .int .i64 a1] w fun e w' => ∃ v0_ : Value, e = .returned (v0_) ∧ Kd.R k124 124 w' w.heap.size (fun _ => True) v0_ r1 ∧ IsS168 w0 w' g s0_0 r2 r3 ∧ Below w0.heap.size w0 w' ∧ KeepBut w w' g none := by
 have hu124 := Try.underlying124
 obtain ⟨HI0, HK, HL, HW0, HB⟩ := zD5 hI (zcd w g none) hB.size hB.size hB
 clear hI hB
 have H : (spec_l00Src_stocked.l0 k a1 (([] : List (S124))) (([(⟨#[109, 105, 108, 107]⟩ : ByteArray), (⟨#[98, 114, 111, 116]⟩ : ByteArray), (⟨#[107, 195, 164, 115, 101]⟩ : ByteArray), (⟨#[120]⟩ : ByteArray), (⟨#[121, 95, 50]⟩ : ByteArray)] : List ByteArray)) 0 s0_0 s0_1 s0_2) = some (r1, r2, r3) := h
 clear h
 obtain ⟨y125, hy125⟩ : ∃ y_ : List (S124), y_ = (([] : List (S124))) := ⟨_, rfl⟩
 replace H : (spec_l00Src_stocked.l0 k a1 y125 (([(⟨#[109, 105, 108, 107]⟩ : ByteArray), (⟨#[98, 114, 111, 116]⟩ : ByteArray), (⟨#[107, 195, 164, 115, 101]⟩ : ByteArray), (⟨#[120]⟩ : ByteArray), (⟨#[121, 95, 50]⟩ : ByteArray)] : List ByteArray)) 0 s0_0 s0_1 s0_2) = some (r1, r2, r3) := by first | (rw [hy125]; with_reducible exact H) | (have H2_ := (Option.bind_some _ _).symm.trans H; rw [hy125]; with_reducible exact H2_) | (have H2_ := (Option.bind_some _ _).symm.trans H; with_reducible exact H2_) | with_reducible exact H | (rw [hy125]; exact H) | exact H
 have Ny125 := za hy125
 clear hy125
 obtain ⟨y128, hy128⟩ : ∃ y_ : List ByteArray, y_ = (([(⟨#[109, 105, 108, 107]⟩ : ByteArray), (⟨#[98, 114, 111, 116]⟩ : ByteArray), (⟨#[107, 195, 164, 115, 101]⟩ : ByteArray), (⟨#[120]⟩ : ByteArray), (⟨#[121, 95, 50]⟩ : ByteArray)] : List ByteArray)) := ⟨_, rfl⟩
 replace H : (spec_l00Src_stocked.l0 k a1 y125 y128 0 s0_0 s0_1 s0_2) = some (r1, r2, r3) := by first | (rw [hy128]; with_reducible exact H) | (have H2_ := (Option.bind_some _ _).symm.trans H; rw [hy128]; with_reducible exact H2_) | (have H2_ := (Option.bind_some _ _).symm.trans H; with_reducible exact H2_) | with_reducible exact H | (rw [hy128]; exact H) | exact H
 have Ny128 := za hy128
 clear hy128
 have H' := za H
 clear H
 go_enter Try.func77, Try.ntmps77
 go_wp2_with (first | ((with_reducible refine gate_dst (N := 8) rfl ?_); refine zbp k124 _ 124 ?hg (N := 8) ?hd (xs := ([] : List (S124))) (inner := []) (ok := fun _ => True) (okp := fun _ => True) ?hr ?hp (fun _ hk => hk) trivial (Below.refl _ _) (Nat.le_refl _) (by simp) ?_; (case hd => rfl); (case hg => rfl); (case hr => exact zH119); (case hp => exact zH126); intro v126 w3 ho4 hb hg_ hnew_; clear hg_ hnew_; (first | rw [← Ny125.out] at ho4 | (simp only [Int.reduceToNat] at ho4; rw [← Ny125.out] at ho4)); have n_ := zA_ (za (zam ho4 (keep_size (w := w) (g := g) (row := none) zG99))) (zA_ (za (IsS168.below zK204 hb)) (zA_ (za (zbd zG99 (KeepBut.of_below hb g none) (.inl rfl))) (za (zu zK210 hb)))); clear HI0 HK HB; obtain ⟨HO127, HI0, HK, HB⟩ := n_; clear hb ho4) | ((with_reducible refine gate_dst (N := 9) rfl ?_); refine zbp Kd.string _ 9 ?hg (N := 9) ?hd (xs := ([(⟨#[109, 105, 108, 107]⟩ : ByteArray), (⟨#[98, 114, 111, 116]⟩ : ByteArray), (⟨#[107, 195, 164, 115, 101]⟩ : ByteArray), (⟨#[120]⟩ : ByteArray), (⟨#[121, 95, 50]⟩ : ByteArray)] : List ByteArray)) (inner := [.string (⟨#[109, 105, 108, 107]⟩ : ByteArray), .string (⟨#[98, 114, 111, 116]⟩ : ByteArray), .string (⟨#[107, 195, 164, 115, 101]⟩ : ByteArray), .string (⟨#[120]⟩ : ByteArray), .string (⟨#[121, 95, 50]⟩ : ByteArray)]) (ok := fun _ => True) (okp := fun _ => True) ?hr ?hp (fun _ hk => hk) trivial (Below.refl _ _) (Nat.le_refl _) (by simp) ?_; (case hd => rfl); (case hg => rfl); (case hr => exact zH119); (case hp => exact (Reps.one (show Kd.M Kd.string _ _ _ (⟨#[109, 105, 108, 107]⟩ : ByteArray) [.string (⟨#[109, 105, 108, 107]⟩ : ByteArray)] from rfl) (Reps.one (show Kd.M Kd.string _ _ _ (⟨#[98, 114, 111, 116]⟩ : ByteArray) [.string (⟨#[98, 114, 111, 116]⟩ : ByteArray)] from rfl) (Reps.one (show Kd.M Kd.string _ _ _ (⟨#[107, 195, 164, 115, 101]⟩ : ByteArray) [.string (⟨#[107, 195, 164, 115, 101]⟩ : ByteArray)] from rfl) (Reps.one (show Kd.M Kd.string _ _ _ (⟨#[120]⟩ : ByteArray) [.string (⟨#[120]⟩ : ByteArray)] from rfl) (Reps.one (show Kd.M Kd.string _ _ _ (⟨#[121, 95, 50]⟩ : ByteArray) [.string (⟨#[121, 95, 50]⟩ : ByteArray)] from rfl) (Reps.none _ _))))))); intro v129 w5 ho6 hb hg_ hnew_; clear hg_ hnew_; (first | rw [← Ny128.out] at ho6 | (simp only [Int.reduceToNat] at ho6; rw [← Ny128.out] at ho6)); have n_ := zA_ (za (zv (by (with_reducible repeat (first | apply zj | apply zk | apply zl)); exact HO127.out) hb)) (zA_ (za (zam ho6 (keep_size (w := w) (g := g) (row := none) zG99))) (zA_ (za (IsS168.below zK204 hb)) (zA_ (za (zbd zG99 (KeepBut.of_below hb g none) (.inl rfl))) (za (zu zK210 hb))))); clear HO127 HI0 HK HB; obtain ⟨HO127, HO130, HI0, HK, HB⟩ := n_; clear hb ho6))
 go_loopg [5, 7] k (fun kq v5 v7 w' => ∃ (x5_1 : List (S124)) (x7_1 : Int) (x1001_1 : Int) (x1002_1 : Int), v7 = .int .i64 x7_1 ∧ Aside0 (spec_l00Src_stocked.l0 kq a1 x5_1 y128 x7_1 s0_0 x1001_1 x1002_1 = some (r1, r2, r3)) ∧ Aside0 (kq ≤ k) ∧ Aside0 (Kd.R k124 124 w' w.heap.size (fun _ => True) v5 x5_1) ∧ Aside0 (Kd.R Kd.string 9 w' w.heap.size (fun _ => True) v129 y128) ∧ Aside0 (IsS168 w0 w' g s0_0 x1001_1 x1002_1) ∧ Aside0 (KeepBut w w' g none) ∧ Aside0 (Below w0.heap.size w0 w'))
 case atStart => exact ⟨(y125), (0), (s0_1), (s0_2), zG127, H', ⟨Nat.le_refl _⟩, ⟨by (with_reducible repeat (first | apply zj | apply zk | apply zl)); exact HO127.out⟩, ⟨by (with_reducible repeat (first | apply zj | apply zk | apply zl)); exact HO130.out⟩, ⟨zH42⟩, ⟨zH74⟩, ⟨zH73⟩⟩
 case round =>
  clear H'
  obtain ⟨x5_1, x7_1, x1001_1, x1002_1, rfl, HA, HK1, HO_5, HO_6, HI0, HK, HB⟩ := hrel
  cases gk with
  | zero => exact absurd HA.out (by simp [spec_l00Src_stocked.l0])
  | succ k1 =>
   have H := HA.out
   clear HA
   simp only [spec_l00Src_stocked.l0] at H
   by_cases c7 : x7_1 < 5
   rotate_left
   ·rw [if_neg c7] at H
    have c7b0 := decide_eq_false c7
    clear c7
    simp only [Option.some.injEq, Prod.mk.injEq] at H
    obtain ⟨rfl, rfl, rfl⟩ := H
    go_wp2
    go_ret
    exact ⟨_, zH111, by (with_reducible repeat (first | apply zj | apply zk | apply zl)); exact HO_5.out, zH42, zH73, zH74⟩

   rw [if_pos c7] at H
   have c7b0 := decide_eq_true c7
   clear c7
   replace H := Option.bind_eq_some_iff.mp H
   obtain ⟨⟨t131, t132, t133⟩, A80, H⟩ := H
   replace H : (if t131 = true then (if 0 ≤ x7_1 then (if x7_1 < (y128.length : Int) then ((spec_l00Src_next.f s0_0 t132 t133 a1).bind fun bt135 => (if x5_1.length < 5864062014805 then (spec_l00Src_stocked.l0 k1 a1 (x5_1 ++ [(⟨rdOf ByteArray.empty y128 x7_1, wrap64 (1 + bt135.1)⟩ : S124)]) y128 (wrap64 (x7_1 + 1)) s0_0 bt135.2.1 bt135.2.2) else (none))) else (none)) else (none)) else (spec_l00Src_stocked.l0 k1 a1 x5_1 y128 (wrap64 (x7_1 + 1)) s0_0 t132 t133)) = some (r1, r2, r3) := H
   have A8 := za A80
   clear A80
   by_cases c9 : t131 = true
   rotate_left
   ·replace c9 := Bool.eq_false_iff.mpr c9
    subst c9
    have H1 : (spec_l00Src_stocked.l0 k1 a1 x5_1 y128 (wrap64 (x7_1 + 1)) s0_0 t132 t133) = some (r1, r2, r3) := by rw [if_neg (show ¬ (false = true) by decide)] at H; exact H
    clear H
    have H := H1
    clear H1
    have H' := za H
    clear H
    go_wp2_with (first | ((with_reducible refine gate_callee (f := 93) rfl ?_); refine goesL_ (some 15) rfl rfl Try.func93 zG128 rfl #[.pointer (some ⟨g, 0, none⟩), .int .i64 2] rfl zG97 ?_; (with_reducible refine (spec_l00Src_chance.calls g s0_0 x1001_1 x1002_1 2 false t132 t133 w0 _ ?side1 ?side2 A8.out).mono ?_); (case side1 => exact zH44); (case side2 => exact zH76); rintro e w19 ⟨rfl, hi, hb, hk⟩; refine ⟨_, rfl, ?_⟩; have n_ := zA_ (za (zs (zbr (IsS168.apart (show IsS168 w0 _ g s0_0 x1001_1 x1002_1 from by repeat (first | (with_reducible first | exact HI0.out | apply IsS168.alloc | apply IsS168.drewN | apply IsS168.drew | apply IsS168.set_1 | apply IsS168.set_2) | exact HI0.out)) zK252 zG129) hk (fun _ h => h.2)) (fun _ h => h.1))) (zA_ (za (zs (zbr (IsS168.apart (show IsS168 w0 _ g s0_0 x1001_1 x1002_1 from by repeat (first | (with_reducible first | exact HI0.out | apply IsS168.alloc | apply IsS168.drewN | apply IsS168.drew | apply IsS168.set_1 | apply IsS168.set_2) | exact HI0.out)) zK253 zG129) hk (fun _ h => h.2)) (fun _ h => h.1))) (zA_ (za (zbd zG99 hk (.inl rfl))) (zA_ (za (hb)) (za (hi))))); clear HO_5 HO_6 HK HB HI0; obtain ⟨HO_5, HO_6, HK, HB, HI0⟩ := n_; (try clear hb); (try clear hk); (try clear hi)))
    go_roundg k1
    case measure => have := HK1.out; omega
    case rel => exact ⟨(x5_1), (wrap64 (x7_1 + 1)), (t132), (t133), zG127, H', ⟨zH124⟩, ⟨by (with_reducible repeat (first | apply zj | apply zk | apply zl)); exact HO_5.out⟩, ⟨by (with_reducible repeat (first | apply zj | apply zk | apply zl)); exact HO_6.out⟩, ⟨zH42⟩, ⟨zH74⟩, ⟨zH73⟩⟩
   subst c9
   have H1 : (if 0 ≤ x7_1 then (if x7_1 < (y128.length : Int) then ((spec_l00Src_next.f s0_0 t132 t133 a1).bind fun bt135 => (if x5_1.length < 5864062014805 then (spec_l00Src_stocked.l0 k1 a1 (x5_1 ++ [(⟨rdOf ByteArray.empty y128 x7_1, wrap64 (1 + bt135.1)⟩ : S124)]) y128 (wrap64 (x7_1 + 1)) s0_0 bt135.2.1 bt135.2.2) else (none))) else (none)) else (none)) = some (r1, r2, r3) := by rw [if_pos rfl] at H; exact H
   clear H
   have H := H1
   clear H1
   by_cases c10 : 0 ≤ x7_1
   rotate_left
   ·rw [if_neg c10] at H
    exact absurd H (by simp)
   rw [if_pos c10] at H
   have c10b0 := decide_eq_true c10
   clear c10
   by_cases c11 : x7_1 < (y128.length : Int)
   rotate_left
   ·rw [if_neg c11] at H
    exact absurd H (by simp)
   rw [if_pos c11] at H
   have c11b0 := decide_eq_true c11
   clear c11
   replace H := Option.bind_eq_some_iff.mp H
   obtain ⟨⟨t135, t136, t137⟩, A120, H⟩ := H
   replace H : (if x5_1.length < 5864062014805 then (spec_l00Src_stocked.l0 k1 a1 (x5_1 ++ [(⟨rdOf ByteArray.empty y128 x7_1, wrap64 (1 + t135)⟩ : S124)]) y128 (wrap64 (x7_1 + 1)) s0_0 t136 t137) else (none)) = some (r1, r2, r3) := H
   have A12 := za A120
   clear A120
   by_cases c13 : x5_1.length < 5864062014805
   rotate_left
   ·rw [if_neg c13] at H
    exact absurd H (by simp)
   rw [if_pos c13] at H
   have LMc13 := za c13
   clear c13
   obtain ⟨y138, hy138⟩ : ∃ y_ : List (S124), y_ = (x5_1 ++ [(⟨rdOf ByteArray.empty y128 x7_1, wrap64 (1 + t135)⟩ : S124)]) := ⟨_, rfl⟩
   replace H : (spec_l00Src_stocked.l0 k1 a1 y138 y128 (wrap64 (x7_1 + 1)) s0_0 t136 t137) = some (r1, r2, r3) := by first | (rw [hy138]; with_reducible exact H) | (have H2_ := (Option.bind_some _ _).symm.trans H; rw [hy138]; with_reducible exact H2_) | (have H2_ := (Option.bind_some _ _).symm.trans H; with_reducible exact H2_) | with_reducible exact H | (rw [hy138]; exact H) | exact H
   have Ny138 := za hy138
   clear hy138
   have H' := za H
   clear H
   try go_wp2_with (first | ((with_reducible refine gate_callee (f := 93) rfl ?_); refine goesL_ (some 15) rfl rfl Try.func93 zG128 rfl #[.pointer (some ⟨g, 0, none⟩), .int .i64 2] rfl zG97 ?_; (with_reducible refine (spec_l00Src_chance.calls g s0_0 x1001_1 x1002_1 2 true t132 t133 w0 _ ?side1 ?side2 A8.out).mono ?_); (case side1 => exact zH44); (case side2 => exact zH76); rintro e w14 ⟨rfl, hi, hb, hk⟩; refine ⟨_, rfl, ?_⟩; have n_ := zA_ (za (zs (zbr (IsS168.apart (show IsS168 w0 _ g s0_0 x1001_1 x1002_1 from by repeat (first | (with_reducible first | exact HI0.out | apply IsS168.alloc | apply IsS168.drewN | apply IsS168.drew | apply IsS168.set_1 | apply IsS168.set_2) | exact HI0.out)) zK252 zG129) hk (fun _ h => h.2)) (fun _ h => h.1))) (zA_ (za (zs (zbr (IsS168.apart (show IsS168 w0 _ g s0_0 x1001_1 x1002_1 from by repeat (first | (with_reducible first | exact HI0.out | apply IsS168.alloc | apply IsS168.drewN | apply IsS168.drew | apply IsS168.set_1 | apply IsS168.set_2) | exact HI0.out)) zK253 zG129) hk (fun _ h => h.2)) (fun _ h => h.1))) (zA_ (za (zbd zG99 hk (.inl rfl))) (zA_ (za (hb)) (za (hi))))); clear HO_5 HO_6 HK HB HI0; obtain ⟨HO_5, HO_6, HK, HB, HI0⟩ := n_; (try clear hb); (try clear hk); (try clear hi)))
   obtain ⟨n0_, n1_, n2_, n3_, n4_⟩ := zD5 (zl HO_5.out) (zl HO_6.out) (IsS168.drew HI0.out) (keep_drew HK.out) (zg HB.out)
   clear HO_5 HO_6 HI0 HK HB
   have HO_5 := n0_
   have HO_6 := n1_
   have HI0 := n2_
   have HK := n3_
   have HB := n4_
   clear n0_ n1_ n2_ n3_ n4_
   obtain ⟨Ao16, co16, eo16⟩ := zan HO_6.out
   (first | subst eo16 | (injection eo16 with f1_ f2_ f3_; have f4_ := f1_.symm; have f5_ := f3_.symm; clear f1_ f2_ f3_; subst f4_; subst f5_))
   have p134 : 0 ≤ (x7_1 : Int) := zO
   have q134 : x7_1 < (y128.length : Int) := zO
   obtain ⟨ad134, e134, hx134_0⟩ := zbt (zae HO_6.out).2.2 x7_1 p134 q134
   cases e134
   replace p134 := eq_true p134
   replace q134 := eq_true q134
   refine start_ (n := 13) (S := fun w' => w'.cell? (ad134.add (x7_1).toNat) = some (.string (rdOf ByteArray.empty y128 x7_1))) (ds := [10, 11]) #[false, false, false, false, false, false, false, false, false, false, false, false, false] zG128 rfl rfl (hx134_0) (fun hHeld => ?_); refine with_tabW spec_l00Src_stocked.tab7 spec_l00Src_stocked.bits7 (fun HT_ HW_ => ?_)
   generalize w14.drew = w15 at HO_5 HO_6 HI0 HK HB hx134_0 hHeld ⊢
   refine zP 0 16 #[true, false, false, false, false, false, false, false, false, false, false, false, false] HT_ ?_
   refine zP 1 17 #[true, true, false, false, false, false, false, false, false, false, false, false, false] HT_ ?_
   refine zP 2 18 #[true, true, true, false, false, false, false, false, false, false, false, false, false] HT_ ?_
   refine zP 3 19 #[true, true, true, true, false, false, false, false, false, false, false, false, false] HT_ ?_
   refine zP 5 21 #[true, true, true, true, false, true, false, false, false, false, false, false, false] HT_ ?_
   refine zP 6 22 #[true, true, true, true, false, true, true, false, false, false, false, false, false] HT_ ?_
   refine zQ 4 20 #[true, true, true, true, true, true, true, false, false, false, false, false, false] HT_ HW_ hHeld ?_
   refine one_ (i := 7) (N := some 23) #[true, true, true, true, true, true, true, true, false, false, false, false, false] rfl rfl (one_of HT_.out zG128) zG129 (fun K hK => ?_)
   refine goes_ Try.func56 zG128 rfl #[.pointer (some ⟨g, 0, none⟩), .int .i64 a1] (by rfl) rfl rfl zG97 ?_
   with_reducible refine (spec_l00Src_next.calls g s0_0 t132 t133 a1 t135 t136 t137 w0 _ ?side1 ?side2 A12.out).mono ?_
   (case side1 => exact zH44)
   (case side2 => exact zH76)
   rintro e w17 ⟨rfl, hi, hb, hk⟩
   have HS0_ := keep_cell hk (hHeld) (by first | (rw [add_block]; exact Kd.own_blk (IsS168.own_ne HI0.out HO_6.out zG129)) | (show (Addr.add _ _).block ≠ _; rw [add_block]; exact Kd.own_blk (IsS168.own_ne HI0.out HO_6.out zG129)) | exact Kd.own_blk (IsS168.own_ne HI0.out HO_6.out zG129))
   refine ⟨_, rfl, ?_⟩
   obtain ⟨n0_, n1_, n2_, n3_, n4_⟩ := zD5 (zs (zbr (IsS168.apart (show IsS168 w0 _ g s0_0 t132 t133 from by repeat (first | (with_reducible first | exact HI0.out | apply IsS168.alloc | apply IsS168.drewN | apply IsS168.drew | apply IsS168.set_1 | apply IsS168.set_2) | exact HI0.out)) zK252 zG129) hk (fun _ h => h.2)) (fun _ h => h.1)) (zs (zbr (IsS168.apart (show IsS168 w0 _ g s0_0 t132 t133 from by repeat (first | (with_reducible first | exact HI0.out | apply IsS168.alloc | apply IsS168.drewN | apply IsS168.drew | apply IsS168.set_1 | apply IsS168.set_2) | exact HI0.out)) zK253 zG129) hk (fun _ h => h.2)) (fun _ h => h.1)) (zbd zG99 hk (.inl rfl)) (hb) (hi)
   clear HO_5 HO_6 HK HB HI0
   have HO_5 := n0_
   have HO_6 := n1_
   have HK := n2_
   have HB := n3_
   have HI0 := n4_
   clear n0_ n1_ n2_ n3_ n4_
   (try clear hb)
   (try clear hb2)
   (try clear hk)
   (try clear hi)
   refine hK.out _ _ (HS0_) (fun hHeld => ?_)
   clear hK K
   refine norm_ (a' := ?_) ?_ ?_
   rotate_left
   ·show Act.put _ (some 23) _ = _
    simp only [Act.put, List.setIfInBounds_toArray, List.set_cons_zero, List.set_cons_succ, i64_w, i32_w]
    rfl
   refine zP 8 24 #[true, true, true, true, true, true, true, true, true, false, false, false, false] HT_ ?_
   refine zP 9 25 #[true, true, true, true, true, true, true, true, true, true, false, false, false] HT_ ?_
   refine last_ (i := 10) (N := some 26) #[true, true, true, true, true, true, true, true, true, true, true, false, false] rfl rfl (one_of HT_.out zG128) zG129 (fun K hK => ?_)
   refine value_ (w1 := ?_) (v := ?_) (by rfl) rfl ?_ ?_
   rotate_left 2
   ·go_simp
    constructor
    ·rfl
    ·rfl
   refine hK.out _ _ ?_
   clear hK K
   refine norm_ (a' := ?_) ?_ ?_
   rotate_left
   ·show Act.put _ (some 26) _ = _
    simp only [Act.put, List.setIfInBounds_toArray, List.set_cons_zero, List.set_cons_succ, i64_w, i32_w]
    rfl
   refine last_ (i := 11) (N := some 27) #[true, true, true, true, true, true, true, true, true, true, true, true, false] rfl rfl (one_of HT_.out zG128) zG129 (fun K hK => ?_)
   refine Kd.R_append_step k124 w.heap.size (by rfl) (.tmp 16) (.tmp 26) 48 124 (.agg #[(.string ⟨#[]⟩), (.int .i64 0)]) 24 rfl Try.underlying48 info124 rfl zG129 (by omega) u5 x5_1 (⟨rdOf ByteArray.empty y128 x7_1, wrap64 (1 + t135)⟩ : S124) [.string (rdOf ByteArray.empty y128 x7_1), .int .i64 (wrap64 (1 + t135))] (fun _ => True) (fun _ => False) rfl rfl ?aP (fun _ hk => hk.elim) ?aF ?aO (Below.refl _ _) ?aS ?aL ?_
   (case aP => exact k124_mkM _ _ _ (⟨rdOf ByteArray.empty y128 x7_1, wrap64 (1 + t135)⟩ : S124))
   (case aF => exact zH121)
   (case aO => exact zK252)
   (case aS => exact (keep_size (w := w) (g := g) (row := none) zG99))
   (case aL => have := LMc13.out; omega)
   intro v139 w18 ho hb hg hat
   rw [← Ny138.out] at ho
   obtain ⟨n0_, n1_, n2_, n3_, n4_⟩ := zD5 (zat zK253 (zau zK252) zG129 hg) (IsS168.grown (show IsS168 w0 _ g s0_0 t136 t137 from by repeat (first | (with_reducible first | exact HI0.out | apply IsS168.alloc | apply IsS168.drewN | apply IsS168.drew | apply IsS168.set_1 | apply IsS168.set_2) | exact HI0.out)) hg (IsS168.own_ne HI0.out HO_5.out zG129)) (below_weaken zK210 HL.out hb) (zbd zG99 (KeepBut.of_grown hg g) (Kd.R_base2 HO_5.out)) (ho)
   clear HO_6 HI0 HB HK HO_5
   have HO_6 := n0_
   have HI0 := n1_
   have HB := n2_
   have HK := n3_
   have HO140 := n4_
   clear n0_ n1_ n2_ n3_ n4_
   clear ho hb hg hat
   refine hK.out _ _ ?_
   clear hK K
   refine norm_ (a' := ?_) ?_ ?_
   rotate_left
   ·show Act.put _ (some 27) _ = _
    simp only [Act.put, List.setIfInBounds_toArray, List.set_cons_zero, List.set_cons_succ, i64_w, i32_w]
    rfl
   refine zP 12 5 #[true, true, true, true, true, true, true, true, true, true, true, true, true] HT_ ?_
   refine done_ (done_of HT_.out zG128) ?_
   try go_wp2
   go_roundg k1
   case measure => have := HK1.out; omega
   case rel => exact ⟨(y138), (wrap64 (x7_1 + 1)), (t136), (t137), zG127, H', ⟨zH124⟩, ⟨by (with_reducible repeat (first | apply zj | apply zk | apply zl)); exact HO140.out⟩, ⟨by (with_reducible repeat (first | apply zj | apply zk | apply zl)); exact HO_6.out⟩, ⟨zH42⟩, ⟨zH74⟩, ⟨zH73⟩⟩
/-! ### spec_SourcesOf: function 23 -/
mutual
def spec_SourcesOf.l0 : Nat → List (S58) → Int → List Int → Int → Int → Option ((List (S58)) × (List (S124)) × List Int)
 | 0, _, _, _, _, _ => none
 | k + 1, x6, x7, x145000, x145001, x145002 => if x7 > 0 then ((spec_l00Digits.f k (x6.length : Int)).bind fun t151 => (if 1 + t151.size ≤ 9223372036854775807 then ((spec_l00Src_next.f x145000 x145001 x145002 6).bind fun bt152 => ((spec_l00Src_stocked.f k x145000 bt152.2.1 bt152.2.2 9).bind fun bt155 => (if x6.length < 2932031007402 then (spec_SourcesOf.l0 k (x6 ++ [(⟨(⟨#[115]⟩ : ByteArray) ++ t151, wrap64 (50 * bt152.1), bt155.1⟩ : S58)]) (wrap64 (x7 - 1)) x145000 bt155.2.1 bt155.2.2) else (none)))) else (none))) else ((spec_l00Src_stocked.f k x145000 x145001 x145002 5).bind fun bt163 => (spec_SourcesOf.l1 k x6 bt163.1 (([] : List Int)) 0 x145000 bt163.2.1 bt163.2.2))
def spec_SourcesOf.l1 : Nat → List (S58) → List (S124) → List Int → Int → List Int → Int → Int → Option ((List (S58)) × (List (S124)) × List Int)
 | 0, _, _, _, _, _, _, _ => none
 | k + 1, x6, x8, x9, x10, x145000, x145001, x145002 => if x10 < (x8.length : Int) then ((spec_l00Src_next.f x145000 x145001 x145002 (x6.length : Int)).bind fun bt171 => (if x9.length < 17592186044416 then (spec_SourcesOf.l1 k x6 x8 (x9 ++ [bt171.1]) (wrap64 (x10 + 1)) x145000 bt171.2.1 bt171.2.2) else (none))) else (some (x6, x8, x9))
end
def spec_SourcesOf.f (k : Nat) (l0 : List Int) : Option ((List (S58)) × (List (S124)) × List Int) := (spec_l00Source.f l0).bind fun bt141 => ((spec_l00Src_next.f bt141.1 bt141.2.1 bt141.2.2 4).bind fun bt148 => (spec_SourcesOf.l0 k (([] : List (S58))) (wrap64 (1 + bt148.1)) bt141.1 bt148.2.1 bt148.2.2))
theorem spec_SourcesOf.mono_l : ∀ k, (∀ y0 y1 y2 y3 y4, LeO (spec_SourcesOf.l0 k y0 y1 y2 y3 y4) (spec_SourcesOf.l0 (k + 1) y0 y1 y2 y3 y4)) ∧ (∀ y0 y1 y2 y3 y4 y5 y6, LeO (spec_SourcesOf.l1 k y0 y1 y2 y3 y4 y5 y6) (spec_SourcesOf.l1 (k + 1) y0 y1 y2 y3 y4 y5 y6))
 | 0 => ⟨fun _ _ _ _ _ r h => by simp [spec_SourcesOf.l0] at h, fun _ _ _ _ _ _ _ r h => by simp [spec_SourcesOf.l1] at h⟩
 | k + 1 => by
  obtain ⟨ih0, ih1⟩ := spec_SourcesOf.mono_l k
  refine ⟨?_, ?_⟩
  ·intro y0 y1 y2 y3 y4
   unfold spec_SourcesOf.l0
   repeat' first
   | (with_reducible exact ih0 _ _ _ _ _)
   | (with_reducible exact ih1 _ _ _ _ _ _ _)
   | (with_reducible exact spec_l00Digits.mono _ _)
   | (with_reducible exact spec_l00Src_stocked.mono _ _ _ _ _)
   | (with_reducible exact LeO.refl _)
   | (with_reducible exact LeO.none _)
   | (with_reducible refine LeO.ite ?_ ?_)
   | (with_reducible refine LeO.bind ?_ (fun _ => ?_))
   | exact ih0 _ _ _ _ _
   | exact ih1 _ _ _ _ _ _ _
   | exact spec_l00Digits.mono _ _
   | exact spec_l00Src_stocked.mono _ _ _ _ _
   | exact LeO.none _
   | refine LeO.ite ?_ ?_
   | refine LeO.bind ?_ (fun _ => ?_)
  ·intro y0 y1 y2 y3 y4 y5 y6
   unfold spec_SourcesOf.l1
   repeat' first
   | (with_reducible exact ih0 _ _ _ _ _)
   | (with_reducible exact ih1 _ _ _ _ _ _ _)
   | (with_reducible exact spec_l00Digits.mono _ _)
   | (with_reducible exact spec_l00Src_stocked.mono _ _ _ _ _)
   | (with_reducible exact LeO.refl _)
   | (with_reducible exact LeO.none _)
   | (with_reducible refine LeO.ite ?_ ?_)
   | (with_reducible refine LeO.bind ?_ (fun _ => ?_))
   | exact ih0 _ _ _ _ _
   | exact ih1 _ _ _ _ _ _ _
   | exact spec_l00Digits.mono _ _
   | exact spec_l00Src_stocked.mono _ _ _ _ _
   | exact LeO.none _
   | refine LeO.ite ?_ ?_
   | refine LeO.bind ?_ (fun _ => ?_)
theorem spec_SourcesOf.mono : ∀ a0 k, LeO (spec_SourcesOf.f k a0) (spec_SourcesOf.f (k + 1) a0) := by
 intro a0 k
 obtain ⟨ih0, ih1⟩ := spec_SourcesOf.mono_l k
 unfold spec_SourcesOf.f
 repeat' first
   | (with_reducible exact ih0 _ _ _ _ _)
   | (with_reducible exact ih1 _ _ _ _ _ _ _)
   | (with_reducible exact spec_l00Digits.mono _ _)
   | (with_reducible exact spec_l00Src_stocked.mono _ _ _ _ _)
   | (with_reducible exact LeO.refl _)
   | (with_reducible exact LeO.none _)
   | (with_reducible refine LeO.ite ?_ ?_)
   | (with_reducible refine LeO.bind ?_ (fun _ => ?_))
   | exact ih0 _ _ _ _ _
   | exact ih1 _ _ _ _ _ _ _
   | exact spec_l00Digits.mono _ _
   | exact spec_l00Src_stocked.mono _ _ _ _ _
   | exact LeO.none _
   | refine LeO.ite ?_ ?_
   | refine LeO.bind ?_ (fun _ => ?_)
set_option maxHeartbeats 64000000 in
set_option maxRecDepth 100000 in
theorem spec_SourcesOf.calls (k : Nat) (A0 : Option Addr) (c0 : Nat) (l0 : List Int) (r1 : List (S58)) (r2 : List (S124)) (r3 : List Int) (w : World) (hr0 : Kd.C (Kd.int .u8) w A0 l0.length l0) (hc0 : l0.length ≤ c0) (h : spec_SourcesOf.f k l0 = some (r1, r2, r3)) :
  Calls Try.prog 23 #[.slice A0 l0.length c0] w fun e w' => ∃ v0_ v1_ v2_ : Value, e = .returned (.tuple #[v0_, v1_, v2_]) ∧ Kd.S k58 58 w' w.heap.size (fun k_ => some k_ ≠ (v1_ : Value).ownBlock) v0_ r1 ∧ Kd.R k124 124 w' w.heap.size (fun _ => True) v1_ r2 ∧ Kd.R (Kd.int .i64) 3 w' w.heap.size (fun _ => True) v2_ r3 ∧ Below w.heap.size w w' := by
 have hu58 := Try.underlying58
 obtain ⟨HR0, HC0, HB⟩ := zD3 hr0 hc0 (Below.refl w.heap.size w)
 clear hr0 hc0
 have H : ((spec_l00Source.f l0).bind fun bt141 => ((spec_l00Src_next.f bt141.1 bt141.2.1 bt141.2.2 4).bind fun bt148 => (spec_SourcesOf.l0 k (([] : List (S58))) (wrap64 (1 + bt148.1)) bt141.1 bt148.2.1 bt148.2.2))) = some (r1, r2, r3) := h
 clear h
 replace H := Option.bind_eq_some_iff.mp H
 obtain ⟨⟨t141, t142, t143⟩, A20, H⟩ := H
 replace H : ((spec_l00Src_next.f t141 t142 t143 4).bind fun bt148 => (spec_SourcesOf.l0 k (([] : List (S58))) (wrap64 (1 + bt148.1)) t141 bt148.2.1 bt148.2.2)) = some (r1, r2, r3) := H
 have A2 := za A20
 clear A20
 obtain ⟨y145, hy145⟩ : ∃ y_ : List (S58), y_ = (([] : List (S58))) := ⟨_, rfl⟩
 replace H : ((spec_l00Src_next.f t141 t142 t143 4).bind fun bt148 => (spec_SourcesOf.l0 k y145 (wrap64 (1 + bt148.1)) t141 bt148.2.1 bt148.2.2)) = some (r1, r2, r3) := by first | (rw [hy145]; with_reducible exact H) | (have H2_ := (Option.bind_some _ _).symm.trans H; rw [hy145]; with_reducible exact H2_) | (have H2_ := (Option.bind_some _ _).symm.trans H; with_reducible exact H2_) | with_reducible exact H | (rw [hy145]; exact H) | exact H
 have Ny145 := za hy145
 clear hy145
 replace H := Option.bind_eq_some_iff.mp H
 obtain ⟨⟨t148, t149, t150⟩, A30, H⟩ := H
 replace H : (spec_SourcesOf.l0 k y145 (wrap64 (1 + t148)) t141 t149 t150) = some (r1, r2, r3) := H
 have A3 := za A30
 clear A30
 have H' := za H
 clear H
 go_enter Try.func23, Try.ntmps23
 go_wp2_with (first | ((with_reducible refine gate_callee (f := 55) rfl ?_); refine goesL_ (some 12) rfl rfl Try.func55 zG128 rfl #[.slice A0 l0.length c0] rfl zG97 ?_; (with_reducible refine (spec_l00Source.calls _ _ l0 t141 t142 t143 w _ ?side1 ?side2 ?side3 A2.out).mono ?_); (case side1 => repeat (first | (with_reducible first | exact HB.out | apply zh | apply zf | apply zg) | exact HB.out)); (case side2 => exact HR0.out); (case side3 => exact zH128); rintro e w4 ⟨g144, rfl, hi, hb, hb2⟩; refine ⟨_, rfl, ?_⟩; have n_ := zA_ (za (hb)) (za (hi)); clear HB; obtain ⟨HB, HI144⟩ := n_; (try clear hb); (try clear hb2); (try clear hk); (try clear hi)) | ((with_reducible refine gate_dst (N := 13) rfl ?_); refine Kd.S_lit k58 _ 58 ?hg (N := 13) ?hd (xs := ([] : List (S58))) (inner := []) (ok := fun _ => True) (okp := fun _ => True) ?hr ?hp (fun _ hk => hk) trivial (Below.refl _ _) (Nat.le_refl _) (by simp) ?_; (case hd => rfl); (case hg => rfl); (case hr => exact zH119); (case hp => exact zH126); intro v146 w5 ho6 hb hg_ hnew_; clear hg_ hnew_; (first | rw [← Ny145.out] at ho6 | (simp only [Int.reduceToNat] at ho6; rw [← Ny145.out] at ho6)); have n_ := zA_ (za (Kd.S_lower ho6 (zq zG98))) (zA_ (za (IsS168.below zK203 hb)) (za (zu zG98 hb))); clear HI144 HB; obtain ⟨HO147, HI144, HB⟩ := n_; clear hb ho6) | ((with_reducible refine gate_callee (f := 56) rfl ?_); refine goesL_ (some 15) rfl rfl Try.func56 zG128 rfl #[.pointer (some ⟨g144, 0, none⟩), .int .i64 4] rfl zG97 ?_; (with_reducible refine (spec_l00Src_next.calls g144 t141 t142 t143 4 t148 t149 t150 w _ ?side1 ?side2 A3.out).mono ?_); (case side1 => exact zH41); (case side2 => exact zH75); rintro e w7 ⟨rfl, hi, hb, hk⟩; refine ⟨_, rfl, ?_⟩; have n_ := zA_ (za (zbs (Kd.S_keep (IsS168.apartS (show IsS168 w _ g144 t141 t142 t143 from by repeat (first | (with_reducible first | exact HI144.out | apply IsS168.alloc | apply IsS168.drewN | apply IsS168.drew | apply IsS168.set_1 | apply IsS168.set_2) | exact HI144.out)) (by (with_reducible repeat (first | apply zbe | apply zbf | apply zbl)); exact HO147.out) zG129) hk (fun _ h => h.2)) (fun _ h => h.1))) (zA_ (za (hb)) (za (hi))); clear HO147 HB HI144; obtain ⟨HO147, HB, HI144⟩ := n_; (try clear hb); (try clear hb2); (try clear hk); (try clear hi)))
 go_loopg [6, 7] k (fun kq v6 v7 w' => ∃ (x6_1 : List (S58)) (x7_1 : Int) (x145001_1 : Int) (x145002_1 : Int), v7 = .int .i64 x7_1 ∧ Aside0 (spec_SourcesOf.l0 kq x6_1 x7_1 t141 x145001_1 x145002_1 = some (r1, r2, r3)) ∧ Aside0 (kq ≤ k) ∧ Aside0 (Kd.S k58 58 w' w.heap.size (fun _ => True) v6 x6_1) ∧ Aside0 (IsS168 w w' g144 t141 x145001_1 x145002_1) ∧ Aside0 (Below w.heap.size w w'))
 case atStart => exact ⟨(y145), (wrap64 (1 + t148)), (t149), (t150), zG127, H', ⟨Nat.le_refl _⟩, ⟨by (with_reducible repeat (first | apply zbe | apply zbf | apply zbl)); exact HO147.out⟩, ⟨zH39⟩, ⟨zH72⟩⟩
 case round =>
  clear H'
  obtain ⟨x6_1, x7_1, x145001_1, x145002_1, rfl, HA, HK1, HO_6, HI144, HB⟩ := hrel
  cases gk with
  | zero => exact absurd HA.out (by simp [spec_SourcesOf.l0])
  | succ k1 =>
   have H := HA.out
   clear HA
   simp only [spec_SourcesOf.l0] at H
   by_cases c8 : x7_1 > 0
   ·rw [if_pos c8] at H
    have c8b0 : decide (0 < x7_1) = true := decide_eq_true c8
    clear c8
    replace H := Option.bind_eq_some_iff.mp H
    obtain ⟨t151, A90, H⟩ := H
    replace H : (if 1 + t151.size ≤ 9223372036854775807 then ((spec_l00Src_next.f t141 x145001_1 x145002_1 6).bind fun bt152 => ((spec_l00Src_stocked.f k1 t141 bt152.2.1 bt152.2.2 9).bind fun bt155 => (if x6_1.length < 2932031007402 then (spec_SourcesOf.l0 k1 (x6_1 ++ [(⟨(⟨#[115]⟩ : ByteArray) ++ t151, wrap64 (50 * bt152.1), bt155.1⟩ : S58)]) (wrap64 (x7_1 - 1)) t141 bt155.2.1 bt155.2.2) else (none)))) else (none)) = some (r1, r2, r3) := H
    have A9 := za A90
    clear A90
    by_cases c10 : 1 + t151.size ≤ 9223372036854775807
    rotate_left
    ·rw [if_neg c10] at H
     exact absurd H (by simp)
    rw [if_pos c10] at H
    have c10b0 := eq_true c10
    have c10b1 := decide_eq_true c10
    try have c10b2 : (9223372036854775807 < 1 + t151.size) = False := eq_false (Nat.not_lt.2 c10)
    replace H := Option.bind_eq_some_iff.mp H
    obtain ⟨⟨t152, t153, t154⟩, A110, H⟩ := H
    replace H : ((spec_l00Src_stocked.f k1 t141 t153 t154 9).bind fun bt155 => (if x6_1.length < 2932031007402 then (spec_SourcesOf.l0 k1 (x6_1 ++ [(⟨(⟨#[115]⟩ : ByteArray) ++ t151, wrap64 (50 * t152), bt155.1⟩ : S58)]) (wrap64 (x7_1 - 1)) t141 bt155.2.1 bt155.2.2) else (none))) = some (r1, r2, r3) := H
    have A11 := za A110
    clear A110
    replace H := Option.bind_eq_some_iff.mp H
    obtain ⟨⟨t155, t158, t159⟩, A120, H⟩ := H
    replace H : (if x6_1.length < 2932031007402 then (spec_SourcesOf.l0 k1 (x6_1 ++ [(⟨(⟨#[115]⟩ : ByteArray) ++ t151, wrap64 (50 * t152), t155⟩ : S58)]) (wrap64 (x7_1 - 1)) t141 t158 t159) else (none)) = some (r1, r2, r3) := H
    have A12 := za A120
    clear A120
    by_cases c13 : x6_1.length < 2932031007402
    rotate_left
    ·rw [if_neg c13] at H
     exact absurd H (by simp)
    rw [if_pos c13] at H
    have LMc13 := za c13
    clear c13
    obtain ⟨y160, hy160⟩ : ∃ y_ : List (S58), y_ = (x6_1 ++ [(⟨(⟨#[115]⟩ : ByteArray) ++ t151, wrap64 (50 * t152), t155⟩ : S58)]) := ⟨_, rfl⟩
    replace H : (spec_SourcesOf.l0 k1 y160 (wrap64 (x7_1 - 1)) t141 t158 t159) = some (r1, r2, r3) := by first | (rw [hy160]; with_reducible exact H) | (have H2_ := (Option.bind_some _ _).symm.trans H; rw [hy160]; with_reducible exact H2_) | (have H2_ := (Option.bind_some _ _).symm.trans H; with_reducible exact H2_) | with_reducible exact H | (rw [hy160]; exact H) | exact H
    have Ny160 := za hy160
    clear hy160
    have H' := za H
    clear H
    obtain ⟨Ao14, co14, eo14⟩ := Kd.S_slice HO_6.out
    subst eo14
    go_wp2_with (first | ((with_reducible refine gate_callee (f := 76) rfl ?_); refine goesL_ (some 24) rfl rfl Try.func76 zG128 rfl #[.int .i64 (x6_1.length : Int)] rfl zG97 ?_; (with_reducible refine (spec_l00Digits.calls k1 (x6_1.length : Int) t151 _ A9.out).mono ?_); rintro e w15 ⟨rfl, hb⟩; refine ⟨_, rfl, ?_⟩; have n_ := zA_ (za (Kd.S_below zK239 hb)) (zA_ (za (IsS168.below zK203 hb)) (za (zu zG98 hb))); clear HO_6 HI144 HB; obtain ⟨HO_6, HI144, HB⟩ := n_; (try clear hb); (try clear hk); (try clear hi)) | ((with_reducible refine gate_callee (f := 56) rfl ?_); refine goesL_ (some 27) rfl rfl Try.func56 zG128 rfl #[.pointer (some ⟨g144, 0, none⟩), .int .i64 6] rfl zG97 ?_; (with_reducible refine (spec_l00Src_next.calls g144 t141 x145001_1 x145002_1 6 t152 t153 t154 w _ ?side1 ?side2 A11.out).mono ?_); (case side1 => exact zH41); (case side2 => exact zH75); rintro e w16 ⟨rfl, hi, hb, hk⟩; refine ⟨_, rfl, ?_⟩; have n_ := zA_ (za (zbs (Kd.S_keep (IsS168.apartS (show IsS168 w _ g144 t141 x145001_1 x145002_1 from by repeat (first | (with_reducible first | exact HI144.out | apply IsS168.alloc | apply IsS168.drewN | apply IsS168.drew | apply IsS168.set_1 | apply IsS168.set_2) | exact HI144.out)) zK239 zG129) hk (fun _ h => h.2)) (fun _ h => h.1))) (zA_ (za (hb)) (za (hi))); clear HO_6 HB HI144; obtain ⟨HO_6, HB, HI144⟩ := n_; (try clear hb); (try clear hk); (try clear hi)) | ((with_reducible refine gate_callee (f := 77) rfl ?_); refine goesL_ (some 30) rfl rfl Try.func77 zG128 rfl #[.pointer (some ⟨g144, 0, none⟩), .int .i64 9] rfl zG97 ?_; (with_reducible refine (spec_l00Src_stocked.calls k1 g144 t141 t153 t154 9 t155 t158 t159 w _ ?side1 ?side2 A12.out).mono ?_); (case side1 => exact zH41); (case side2 => exact zH75); rintro e w17 ⟨v156, rfl, ho0, hi, hb, hk⟩; refine ⟨_, rfl, ?_⟩; have n_ := zA_ (za (zbs (Kd.S_told (Kd.S_oldK (IsS168.apartS (show IsS168 w _ g144 t141 t153 t154 from by repeat (first | (with_reducible first | exact HI144.out | apply IsS168.alloc | apply IsS168.drewN | apply IsS168.drew | apply IsS168.set_1 | apply IsS168.set_2) | exact HI144.out)) zK239 zG129) hk) (zaj ho0)) (fun _ h_ => h_.1))) (zA_ (za (zam ho0 (zq zG98))) (zA_ (za (hb)) (za (hi)))); clear HO_6 HB HI144; obtain ⟨HO_6, HO157, HB, HI144⟩ := n_; (try clear hb); (try clear hk); (try clear hi); (try clear ho0); obtain ⟨Ao18, co18, eo18⟩ := zan HO157.out; subst eo18) | ((with_reducible refine gate_builtin (b := .append) (xs := #[.tmp 21, .tmp 32]) rfl ?_); at_builtin; refine Kd.S_append k58 (w0 := w) w.heap.size rfl (.tmp 21) (.tmp 32) 47 58 (.agg #[(.string ⟨#[]⟩), (.int .i64 0), (.slice none 0 0)]) 48 rfl Try.underlying47 info58 rfl zG129 (by omega) (.slice Ao14 x6_1.length co14) x6_1 (⟨(⟨#[115]⟩ : ByteArray) ++ t151, wrap64 (50 * t152), t155⟩ : S58) [.string ((⟨#[115]⟩ : ByteArray) ++ t151), .int .i64 (wrap64 (50 * t152)), .slice Ao18 t155.length co18] (fun _ => True) (fun k_ => some k_ = (.slice Ao18 t155.length co18 : Value).ownBlock) rfl rfl ?aP (fun k_ hk_ => ((zs (ok' := fun k_ => ((fun _ => True)) k_ ∧ some k_ ≠ (.slice Ao14 x6_1.length co14 : Value).ownBlock) (zao (HO157.out) (Kd.S_typed HO_6.out) zG129) (fun k_ hk => ⟨trivial, hk.2⟩))).1 k_ hk_.symm) ?aF ?aO ?aB ?aS ?aL ?_; (case aP => exact k58_mkM _ _ _ (⟨(⟨#[115]⟩ : ByteArray) ++ t151, wrap64 (50 * t152), t155⟩ : S58) (zs (Kd.R_tight rfl (zs (ok' := fun k_ => ((fun _ => True)) k_ ∧ some k_ ≠ (.slice Ao14 x6_1.length co14 : Value).ownBlock) (zao (HO157.out) (Kd.S_typed HO_6.out) zG129) (fun k_ hk => ⟨trivial, hk.2⟩))) (fun _ h_ => h_))); (case aB => exact zG98); (case aF => exact zH121); (case aO => exact (by (with_reducible repeat (first | apply zbe | apply zbf | apply zbl)); exact zbs HO_6.out (fun k_ hk => ⟨trivial, fun e_ => hk.2 e_⟩))); (case aS => exact (zq zG98)); (case aL => have := LMc13.out; omega); intro v161 w19 ho hb hg hat; rw [← Ny160.out] at ho; have n_ := zA_ (za (IsS168.grown (show IsS168 w _ g144 t141 t158 t159 from by repeat (first | (with_reducible first | exact HI144.out | apply IsS168.alloc | apply IsS168.drewN | apply IsS168.drew | apply IsS168.set_1 | apply IsS168.set_2) | exact HI144.out)) hg (IsS168.own_neS HI144.out HO_6.out zG129))) (zA_ (za (hb)) (za (ho))); clear HI144 HB HO_6 HO157; obtain ⟨HI144, HB, HO162⟩ := n_; clear ho hb hg hat))
    go_roundg k1
    case measure => have := HK1.out; omega
    case rel => exact ⟨(y160), (wrap64 (x7_1 - 1)), (t158), (t159), zG127, H', ⟨zH124⟩, ⟨by (with_reducible repeat (first | apply zbe | apply zbf | apply zbl)); exact HO162.out⟩, ⟨zH39⟩, ⟨zH72⟩⟩
   rw [if_neg c8] at H
   have c8b0 : decide (0 < x7_1) = false := decide_eq_false c8
   clear c8
   replace H := Option.bind_eq_some_iff.mp H
   obtain ⟨⟨t163, t166, t167⟩, A200, H⟩ := H
   replace H : (spec_SourcesOf.l1 k1 x6_1 t163 (([] : List Int)) 0 t141 t166 t167) = some (r1, r2, r3) := H
   have A20 := za A200
   clear A200
   obtain ⟨y168, hy168⟩ : ∃ y_ : List Int, y_ = (([] : List Int)) := ⟨_, rfl⟩
   replace H : (spec_SourcesOf.l1 k1 x6_1 t163 y168 0 t141 t166 t167) = some (r1, r2, r3) := by first | (rw [hy168]; with_reducible exact H) | (have H2_ := (Option.bind_some _ _).symm.trans H; rw [hy168]; with_reducible exact H2_) | (have H2_ := (Option.bind_some _ _).symm.trans H; with_reducible exact H2_) | with_reducible exact H | (rw [hy168]; exact H) | exact H
   have Ny168 := za hy168
   clear hy168
   have H' := za H
   clear H
   go_wp2_with (first | ((with_reducible refine gate_callee (f := 77) rfl ?_); refine goesL_ (some 35) rfl rfl Try.func77 zG128 rfl #[.pointer (some ⟨g144, 0, none⟩), .int .i64 5] rfl zG97 ?_; (with_reducible refine (spec_l00Src_stocked.calls k1 g144 t141 x145001_1 x145002_1 5 t163 t166 t167 w _ ?side1 ?side2 A20.out).mono ?_); (case side1 => exact zH41); (case side2 => exact zH75); rintro e w21 ⟨v164, rfl, ho0, hi, hb, hk⟩; refine ⟨_, rfl, ?_⟩; have n_ := zA_ (za (zbs (Kd.S_told (Kd.S_oldK (IsS168.apartS (show IsS168 w _ g144 t141 x145001_1 x145002_1 from by repeat (first | (with_reducible first | exact HI144.out | apply IsS168.alloc | apply IsS168.drewN | apply IsS168.drew | apply IsS168.set_1 | apply IsS168.set_2) | exact HI144.out)) zK239 zG129) hk) (zaj ho0)) (fun _ h_ => h_.1))) (zA_ (za (zam ho0 (zq zG98))) (zA_ (za (hb)) (za (hi)))); clear HO_6 HB HI144; obtain ⟨HO_6, HO165, HB, HI144⟩ := n_; (try clear hb); (try clear hk); (try clear hi); (try clear ho0)) | ((with_reducible refine gate_dst (N := 36) rfl ?_); refine zbp (Kd.int .i64) _ 3 ?hg (N := 36) ?hd (xs := ([] : List Int)) (inner := []) (ok := fun _ => True) (okp := fun _ => True) ?hr ?hp (fun _ hk => hk) trivial (Below.refl _ _) (Nat.le_refl _) (by simp) ?_; (case hd => rfl); (case hg => rfl); (case hr => exact zH119); (case hp => exact zH126); intro v169 w22 ho23 hb hg_ hnew_; clear hg_ hnew_; (first | rw [← Ny168.out] at ho23 | (simp only [Int.reduceToNat] at ho23; rw [← Ny168.out] at ho23)); have n_ := zA_ (za (Kd.S_below zK239 hb)) (zA_ (za (zv (by (with_reducible repeat (first | apply zj | apply zk | apply zl)); exact HO165.out) hb)) (zA_ (za (zam ho23 (zq zG98))) (zA_ (za (IsS168.below zK203 hb)) (za (zu zG98 hb))))); clear HO_6 HO165 HI144 HB; obtain ⟨HO_6, HO165, HO170, HI144, HB⟩ := n_; clear hb ho23))
   go_loopg [9, 10] k1 (fun kq v9 v10 w' => ∃ (x9_2 : List Int) (x10_2 : Int) (x145001_2 : Int) (x145002_2 : Int), v10 = .int .i64 x10_2 ∧ Aside0 (spec_SourcesOf.l1 kq x6_1 t163 x9_2 x10_2 t141 x145001_2 x145002_2 = some (r1, r2, r3)) ∧ Aside0 (kq ≤ k1) ∧ Aside0 (Kd.S k58 58 w' w.heap.size (fun k_ => some k_ ≠ (v164 : Value).ownBlock) u6 x6_1) ∧ Aside0 (Kd.R k124 124 w' w.heap.size (fun _ => True) v164 t163) ∧ Aside0 (Kd.R (Kd.int .i64) 3 w' w.heap.size (fun _ => True) v9 x9_2) ∧ Aside0 (IsS168 w w' g144 t141 x145001_2 x145002_2) ∧ Aside0 (Below w.heap.size w w'))
   case atStart => exact ⟨(y168), (0), (t166), (t167), zG127, H', ⟨Nat.le_refl _⟩, ⟨by (with_reducible repeat (first | apply zbe | apply zbf | apply zbl)); exact zbs HO_6.out (fun _ hk => hk.2)⟩, ⟨by (with_reducible repeat (first | apply zj | apply zk | apply zl)); exact HO165.out⟩, ⟨by (with_reducible repeat (first | apply zj | apply zk | apply zl)); exact HO170.out⟩, ⟨zH39⟩, ⟨zH72⟩⟩
   case round =>
    clear H'
    try clear c8
    try clear c8b0
    try clear c10
    try clear c10b0
    try clear c10b1
    try clear c10b2
    try clear c13
    obtain ⟨x9_2, x10_2, x145001_2, x145002_2, rfl, HA, HK2, HO_6, HO_8, HO_9, HI144, HB⟩ := hrel
    cases gk with
    | zero => exact absurd HA.out (by simp [spec_SourcesOf.l1])
    | succ k2 =>
     have H := HA.out
     clear HA
     simp only [spec_SourcesOf.l1] at H
     by_cases c24 : x10_2 < (t163.length : Int)
     rotate_left
     ·rw [if_neg c24] at H
      have c24b0 := decide_eq_false c24
      clear c24
      simp only [Option.some.injEq, Prod.mk.injEq] at H
      obtain ⟨rfl, rfl, rfl⟩ := H
      obtain ⟨Ao31, co31, eo31⟩ := zan HO_8.out
      subst eo31
      go_wp2
      go_ret3
      exact ⟨_, _, _, zH111, by (with_reducible repeat (first | apply zbe | apply zbf | apply zbl)); exact HO_6.out, by (with_reducible repeat (first | apply zj | apply zk | apply zl)); exact HO_8.out, zH113, zH72⟩

     rw [if_pos c24] at H
     have c24b0 := decide_eq_true c24
     clear c24
     replace H := Option.bind_eq_some_iff.mp H
     obtain ⟨⟨t171, t172, t173⟩, A250, H⟩ := H
     replace H : (if x9_2.length < 17592186044416 then (spec_SourcesOf.l1 k2 x6_1 t163 (x9_2 ++ [t171]) (wrap64 (x10_2 + 1)) t141 t172 t173) else (none)) = some (r1, r2, r3) := H
     have A25 := za A250
     clear A250
     by_cases c26 : x9_2.length < 17592186044416
     rotate_left
     ·rw [if_neg c26] at H
      exact absurd H (by simp)
     rw [if_pos c26] at H
     have LMc26 := za c26
     clear c26
     obtain ⟨y174, hy174⟩ : ∃ y_ : List Int, y_ = (x9_2 ++ [t171]) := ⟨_, rfl⟩
     replace H : (spec_SourcesOf.l1 k2 x6_1 t163 y174 (wrap64 (x10_2 + 1)) t141 t172 t173) = some (r1, r2, r3) := by first | (rw [hy174]; with_reducible exact H) | (have H2_ := (Option.bind_some _ _).symm.trans H; rw [hy174]; with_reducible exact H2_) | (have H2_ := (Option.bind_some _ _).symm.trans H; with_reducible exact H2_) | with_reducible exact H | (rw [hy174]; exact H) | exact H
     have Ny174 := za hy174
     clear hy174
     have H' := za H
     clear H
     obtain ⟨Ao27, co27, eo27⟩ := zan HO_8.out
     subst eo27
     obtain ⟨Ao28, co28, eo28⟩ := Kd.S_slice HO_6.out
     subst eo28
     go_wp2_with (first | ((with_reducible refine gate_callee (f := 56) rfl ?_); refine goesL_ (some 47) rfl rfl Try.func56 zG128 rfl #[.pointer (some ⟨g144, 0, none⟩), .int .i64 (x6_1.length : Int)] rfl zG97 ?_; (with_reducible refine (spec_l00Src_next.calls g144 t141 x145001_2 x145002_2 (x6_1.length : Int) t171 t172 t173 w _ ?side1 ?side2 A25.out).mono ?_); (case side1 => exact zH41); (case side2 => exact zH75); rintro e w29 ⟨rfl, hi, hb, hk⟩; refine ⟨_, rfl, ?_⟩; have n_ := zA_ (za (zbs (Kd.S_keep (IsS168.apartS (show IsS168 w _ g144 t141 x145001_2 x145002_2 from by repeat (first | (with_reducible first | exact HI144.out | apply IsS168.alloc | apply IsS168.drewN | apply IsS168.drew | apply IsS168.set_1 | apply IsS168.set_2) | exact HI144.out)) zK239 zG129) hk (fun _ h => h.2)) (fun _ h => h.1))) (zA_ (za (zs (zbr (IsS168.apart (show IsS168 w _ g144 t141 x145001_2 x145002_2 from by repeat (first | (with_reducible first | exact HI144.out | apply IsS168.alloc | apply IsS168.drewN | apply IsS168.drew | apply IsS168.set_1 | apply IsS168.set_2) | exact HI144.out)) (by (with_reducible repeat (first | apply zj | apply zk | apply zl)); exact HO_8.out) zG129) hk (fun _ h => h.2)) (fun _ h => h.1))) (zA_ (za (zs (zbr (IsS168.apart (show IsS168 w _ g144 t141 x145001_2 x145002_2 from by repeat (first | (with_reducible first | exact HI144.out | apply IsS168.alloc | apply IsS168.drewN | apply IsS168.drew | apply IsS168.set_1 | apply IsS168.set_2) | exact HI144.out)) zK254 zG129) hk (fun _ h => h.2)) (fun _ h => h.1))) (zA_ (za (hb)) (za (hi))))); clear HO_6 HO_8 HO_9 HB HI144; obtain ⟨HO_6, HO_8, HO_9, HB, HI144⟩ := n_; (try clear hb); (try clear hk); (try clear hi)) | ((with_reducible refine gate_builtin (b := .append) (xs := #[.tmp 43, .tmp 48]) rfl ?_); at_builtin; refine Kd.R_append (Kd.int .i64) (w0 := w) w.heap.size rfl (.tmp 43) (.tmp 48) 24 3 (.int .i64 0) 8 rfl Try.underlying24 info3 rfl zG129 (by omega) u9 x9_2 t171 [.int .i64 t171] (fun _ => True) (fun _ => False) rfl rfl ?aP (fun _ hk => hk.elim) ?aF ?aO ?aB ?aS ?aL ?_; (case aP => exact rfl); (case aB => exact zG98); (case aF => exact zH121); (case aO => exact zK254); (case aS => exact (zq zG98)); (case aL => have := LMc26.out; omega); intro v175 w30 ho hb hg hat; rw [← Ny174.out] at ho; have n_ := zA_ (za (Kd.S_over' zK239 (zau zK254) zG129 hg)) (zA_ (za (zat (by (with_reducible repeat (first | apply zj | apply zk | apply zl)); exact HO_8.out) (zau zK254) zG129 hg)) (zA_ (za (IsS168.grown (show IsS168 w _ g144 t141 t172 t173 from by repeat (first | (with_reducible first | exact HI144.out | apply IsS168.alloc | apply IsS168.drewN | apply IsS168.drew | apply IsS168.set_1 | apply IsS168.set_2) | exact HI144.out)) hg (IsS168.own_ne HI144.out HO_9.out zG129))) (zA_ (za (hb)) (za (ho))))); clear HO_6 HO_8 HI144 HB HO_9; obtain ⟨HO_6, HO_8, HI144, HB, HO176⟩ := n_; clear ho hb hg hat))
     go_roundg k2
     case measure => have := HK1.out; have := HK2.out; omega
     case rel => exact ⟨(y174), (wrap64 (x10_2 + 1)), (t172), (t173), zG127, H', ⟨by have := HK1.out; have := HK2.out; omega⟩, ⟨by (with_reducible repeat (first | apply zbe | apply zbf | apply zbl)); exact HO_6.out⟩, ⟨by (with_reducible repeat (first | apply zj | apply zk | apply zl)); exact HO_8.out⟩, ⟨by (with_reducible repeat (first | apply zj | apply zk | apply zl)); exact HO176.out⟩, ⟨zH39⟩, ⟨zH72⟩⟩
/-! ### impl_within: function 88 -/
def impl_within.f (a0 : Int) (a1 : Int) (a2 : Int) : Option (Bool) := if a0 ≥ a1 then (some (decide (a0 ≤ a2))) else (some false)
set_option maxHeartbeats 64000000 in
set_option maxRecDepth 100000 in
theorem impl_within.calls (a0 : Int) (a1 : Int) (a2 : Int) (r : Bool) (w : World) (h : impl_within.f a0 a1 a2 = some r) :
  Calls Try.prog 88 #[.int .i64 a0, .int .i64 a1, .int .i64 a2] w fun e w' => e = .returned (.bool r) ∧ Drawn0 w w' := by
 have H : (if a0 ≥ a1 then (some (decide (a0 ≤ a2))) else (some false)) = some r := h
 clear h
 by_cases c4 : a0 ≥ a1
 ·rw [if_pos c4] at H
  have c4b0 : decide (a1 ≤ a0) = true := decide_eq_true c4
  clear c4
  obtain rfl := Option.some.inj H
  go_enter Try.func88, Try.ntmps88
  go_wp2
  go_ret
  exact zH89
 rw [if_neg c4] at H
 have c4b0 : decide (a1 ≤ a0) = false := decide_eq_false c4
 clear c4
 obtain rfl := Option.some.inj H
 go_enter Try.func88, Try.ntmps88
 go_wp2
 go_ret
 exact zH89

/-! ### impl_isLetter: function 129 -/
def impl_isLetter.f (a0 : Int) : Option (Bool) := if a0 ≥ 97 then (if a0 ≤ 122 then (some true) else (if a0 ≥ 65 then (if a0 ≤ 90 then (some true) else (some (a0 == 95))) else (some (a0 == 95)))) else (if a0 ≥ 65 then (if a0 ≤ 90 then (some true) else (some (a0 == 95))) else (some (a0 == 95)))
set_option maxHeartbeats 64000000 in
set_option maxRecDepth 100000 in
theorem impl_isLetter.calls (a0 : Int) (r : Bool) (w : World) (h : impl_isLetter.f a0 = some r) :
  Calls Try.prog 129 #[.int .u8 a0] w fun e w' => e = .returned (.bool r) ∧ Drawn0 w w' := by
 have H : (if a0 ≥ 97 then (if a0 ≤ 122 then (some true) else (if a0 ≥ 65 then (if a0 ≤ 90 then (some true) else (some (a0 == 95))) else (some (a0 == 95)))) else (if a0 ≥ 65 then (if a0 ≤ 90 then (some true) else (some (a0 == 95))) else (some (a0 == 95)))) = some r := h
 clear h
 by_cases c2 : a0 ≥ 97
 rotate_left
 ·rw [if_neg c2] at H
  have c2b0 : decide (97 ≤ a0) = false := decide_eq_false c2
  clear c2
  by_cases c6 : a0 ≥ 65
  rotate_left
  ·rw [if_neg c6] at H
   have c6b0 : decide (65 ≤ a0) = false := decide_eq_false c6
   clear c6
   obtain rfl := Option.some.inj H
   go_enter Try.func129, Try.ntmps129
   go_wp2
   go_ret
   exact zH89

  rw [if_pos c6] at H
  have c6b0 : decide (65 ≤ a0) = true := decide_eq_true c6
  clear c6
  by_cases c7 : a0 ≤ 90
  rotate_left
  ·rw [if_neg c7] at H
   have c7b0 := decide_eq_false c7
   clear c7
   obtain rfl := Option.some.inj H
   go_enter Try.func129, Try.ntmps129
   go_wp2
   go_ret
   exact zH89
  rw [if_pos c7] at H
  have c7b0 := decide_eq_true c7
  clear c7
  obtain rfl := Option.some.inj H
  go_enter Try.func129, Try.ntmps129
  go_wp2
  go_ret
  exact zH89
 rw [if_pos c2] at H
 have c2b0 : decide (97 ≤ a0) = true := decide_eq_true c2
 clear c2
 by_cases c3 : a0 ≤ 122
 ·rw [if_pos c3] at H
  have c3b0 := decide_eq_true c3
  clear c3
  obtain rfl := Option.some.inj H
  go_enter Try.func129, Try.ntmps129
  go_wp2
  go_ret
  exact zH89
 rw [if_neg c3] at H
 have c3b0 := decide_eq_false c3
 clear c3
 by_cases c4 : a0 ≥ 65
 rotate_left
 ·rw [if_neg c4] at H
  have c4b0 : decide (65 ≤ a0) = false := decide_eq_false c4
  clear c4
  obtain rfl := Option.some.inj H
  go_enter Try.func129, Try.ntmps129
  go_wp2
  go_ret
  exact zH89
 rw [if_pos c4] at H
 have c4b0 : decide (65 ≤ a0) = true := decide_eq_true c4
 clear c4
 by_cases c5 : a0 ≤ 90
 rotate_left
 ·rw [if_neg c5] at H
  have c5b0 := decide_eq_false c5
  clear c5
  obtain rfl := Option.some.inj H
  go_enter Try.func129, Try.ntmps129
  go_wp2
  go_ret
  exact zH89
 rw [if_pos c5] at H
 have c5b0 := decide_eq_true c5
 clear c5
 obtain rfl := Option.some.inj H
 go_enter Try.func129, Try.ntmps129
 go_wp2
 go_ret
 exact zH89
/-! ### impl_isDigit: function 130 -/
def impl_isDigit.f (a0 : Int) : Option (Bool) := if a0 ≥ 48 then (some (decide (a0 ≤ 57))) else (some false)
set_option maxHeartbeats 64000000 in
set_option maxRecDepth 100000 in
theorem impl_isDigit.calls (a0 : Int) (r : Bool) (w : World) (h : impl_isDigit.f a0 = some r) :
  Calls Try.prog 130 #[.int .u8 a0] w fun e w' => e = .returned (.bool r) ∧ Drawn0 w w' := by
 have H : (if a0 ≥ 48 then (some (decide (a0 ≤ 57))) else (some false)) = some r := h
 clear h
 by_cases c2 : a0 ≥ 48
 ·rw [if_pos c2] at H
  have c2b0 : decide (48 ≤ a0) = true := decide_eq_true c2
  clear c2
  obtain rfl := Option.some.inj H
  go_enter Try.func130, Try.ntmps130
  go_wp2
  go_ret
  exact zH89
 rw [if_neg c2] at H
 have c2b0 : decide (48 ≤ a0) = false := decide_eq_false c2
 clear c2
 obtain rfl := Option.some.inj H
 go_enter Try.func130, Try.ntmps130
 go_wp2
 go_ret
 exact zH89

end Go.Proofs.Ytojncbpeeboooaa.X
