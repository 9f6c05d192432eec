-- squeezed
-- made by pp.py (wip/tools) out of the translation; Lean checks it
import Derived.Test.YtnkceaibkfbeaaaE0
import Derived.Test.YtnkceaibkfbeaaaE16
namespace Go.Proofs.Ytnkceaibkfbeaaa.E
open Go.RowKit Go.Proofs.YtnkceaibkfbeaaaW.PrintWords Go.Proofs.YtnkceaibkfbeaaaW.PrintLast Go.Proofs.YtnkceaibkfbeaaaW.PrintMore
attribute [local go_sem] max2_int min2_int max_two min_two max_three min_three max_four min_four   -- for this text's walks alone
set_option linter.unusedVariables false
set_option linter.unusedSimpArgs false


/-! ### laws_markStockLotS: function 32 -/
def laws_markStockLotS.l0 : Nat → List (S38) → Int → Int → Option (Int × (List (S38)))
 | 0, _, _, _ => none
 | k + 1, x0, x1, x5 => if x5 < (x0.length : Int) then ((laws_markText.f k x1).bind fun t331 => (if 0 ≤ x5 then ((some (x0.set (x5 : Int).toNat (⟨t331, (rd_T38 x0 x5).f1, (rd_T38 x0 x5).f2, (rd_T38 x0 x5).f3, (rd_T38 x0 x5).f4⟩ : S38) : List (S38))).bind fun y332 => ((some (y332.set (x5 : Int).toNat (⟨(rd_T38 y332 x5).f0, wrap64 (x1 + 1), (rd_T38 y332 x5).f2, (rd_T38 y332 x5).f3, (rd_T38 y332 x5).f4⟩ : S38) : List (S38))).bind fun y333 => ((some (y333.set (x5 : Int).toNat (⟨(rd_T38 y333 x5).f0, (rd_T38 y333 x5).f1, wrap64 ((wrap64 (x1 + 1)) + 1), (rd_T38 y333 x5).f3, (rd_T38 y333 x5).f4⟩ : S38) : List (S38))).bind fun y334 => ((some (y334.set (x5 : Int).toNat (⟨(rd_T38 y334 x5).f0, (rd_T38 y334 x5).f1, (rd_T38 y334 x5).f2, wrap64 ((wrap64 ((wrap64 (x1 + 1)) + 1)) + 1), (rd_T38 y334 x5).f4⟩ : S38) : List (S38))).bind fun y335 => (laws_markStockLotS.l0 k (y335.set (x5 : Int).toNat (⟨(rd_T38 y335 x5).f0, (rd_T38 y335 x5).f1, (rd_T38 y335 x5).f2, (rd_T38 y335 x5).f3, ((Int.tmod (wrap64 ((wrap64 ((wrap64 ((wrap64 (x1 + 1)) + 1)) + 1)) + 1)) 3) == 0)⟩ : S38)) (wrap64 ((wrap64 ((wrap64 ((wrap64 ((wrap64 (x1 + 1)) + 1)) + 1)) + 1)) + 1)) (wrap64 (x5 + 1))))))) else (none))) else (some (x1, x0))
def laws_markStockLotS.f (k : Nat) (l0 : List (S38)) (a1 : Int) : Option (Int × (List (S38))) := laws_markStockLotS.l0 k l0 a1 0
theorem laws_markStockLotS.mono_l : ∀ k, (∀ y0 y1 y2, LeO (laws_markStockLotS.l0 k y0 y1 y2) (laws_markStockLotS.l0 (k + 1) y0 y1 y2))
 | 0 => fun _ _ _ r h => by simp [laws_markStockLotS.l0] at h
 | k + 1 => by
  have ih0 := laws_markStockLotS.mono_l k
  ·intro y0 y1 y2
   unfold laws_markStockLotS.l0
   repeat' first
   | (with_reducible exact ih0 _ _ _)
   | (with_reducible exact laws_markText.mono _ _)
   | (with_reducible exact LeO.refl _)
   | (with_reducible exact LeO.none _)
   | (with_reducible refine LeO.ite ?_ ?_)
   | (with_reducible refine LeO.bind ?_ (fun _ => ?_))
   | exact ih0 _ _ _
   | exact laws_markText.mono _ _
   | exact LeO.none _
   | refine LeO.ite ?_ ?_
   | refine LeO.bind ?_ (fun _ => ?_)
theorem laws_markStockLotS.mono : ∀ a0 a1 k, LeO (laws_markStockLotS.f k a0 a1) (laws_markStockLotS.f (k + 1) a0 a1) := by
 intro a0 a1 k
 have ih0 := laws_markStockLotS.mono_l k
 unfold laws_markStockLotS.f
 repeat' first
   | (with_reducible exact ih0 _ _ _)
   | (with_reducible exact laws_markText.mono _ _)
   | (with_reducible exact LeO.refl _)
   | (with_reducible exact LeO.none _)
   | (with_reducible refine LeO.ite ?_ ?_)
   | (with_reducible refine LeO.bind ?_ (fun _ => ?_))
   | exact ih0 _ _ _
   | exact laws_markText.mono _ _
   | exact LeO.none _
   | refine LeO.ite ?_ ?_
   | refine LeO.bind ?_ (fun _ => ?_)
set_option maxHeartbeats 64000000 in
set_option maxRecDepth 100000 in
theorem laws_markStockLotS.calls (k : Nat) (P0_ : Nat → Prop) (u9000_ : Value) (l0 : List (S38)) (a1 : Int) (r1 : Int) (r2 : List (S38)) (w0 w : World) (hB : Below w0.heap.size w0 w) (ho0 : Kd.R k38 38 w w0.heap.size P0_ u9000_ l0) (h : laws_markStockLotS.f k l0 a1 = some (r1, r2)) :
  Calls Try.prog 32 #[u9000_, .int .i64 a1] w fun e w' => e = .returned (.int .i64 r1) ∧ Kd.R k38 38 w' w0.heap.size (fun k_ => (P0_ k_ ∨ w.heap.size ≤ k_)) u9000_ r2 ∧ Below w0.heap.size w0 w' ∧ Kept w w' (fun k_ => P0_ k_) := by
 obtain ⟨HO0, HK, HW0, HB⟩ := zD4 (show Kd.R k38 38 w w0.heap.size (fun k_ => (P0_ k_ ∨ w.heap.size ≤ k_)) u9000_ l0 from zs ho0 (fun k_ hk => (.inl hk))) (Kept.refl w (fun k_ => P0_ k_)) hB.size hB
 clear hB
 have H : (laws_markStockLotS.l0 k l0 a1 0) = some (r1, r2) := h
 clear h
 have H' := za H
 clear H
 go_enter Try.func32, Try.ntmps32
 go_wp2
 go_loopg [1, 5] k (fun kq v1 v5 w' => ∃ (x0_1 : List (S38)) (x1_1 : Int) (x5_1 : Int), v1 = .int .i64 x1_1 ∧ v5 = .int .i64 x5_1 ∧ Aside0 (laws_markStockLotS.l0 kq x0_1 x1_1 x5_1 = some (r1, r2)) ∧ Aside0 (kq ≤ k) ∧ Aside0 (Kd.R k38 38 w' w0.heap.size (fun k_ => (P0_ k_ ∨ w.heap.size ≤ k_)) u9000_ x0_1) ∧ Aside0 (Kept w w' (fun k_ => P0_ k_)) ∧ Aside0 (Below w0.heap.size w0 w'))
 case atStart => exact ⟨(l0), (a1), (0), zG82, zG82, H', ⟨Nat.le_refl _⟩, ⟨zH75⟩, ⟨zH46⟩, ⟨zH60⟩⟩
 case round =>
  clear H'
  obtain ⟨x0_1, x1_1, x5_1, rfl, rfl, HA, HK1, HO_0, HK, HB⟩ := hrel
  cases gk with
  | zero => exact absurd HA.out (by simp [laws_markStockLotS.l0])
  | succ k1 =>
   have H := HA.out
   clear HA
   simp only [laws_markStockLotS.l0] at H
   by_cases c3 : x5_1 < (x0_1.length : Int)
   rotate_left
   ·rw [if_neg c3] at H
    have c3b0 := decide_eq_false c3
    clear c3
    simp only [Option.some.injEq, Prod.mk.injEq] at H
    obtain ⟨rfl, rfl⟩ := H
    obtain ⟨Ao23, co23, eo23⟩ := zx HO_0.out
    subst eo23
    go_wp2
    go_ret
    exact zH2

   rw [if_pos c3] at H
   have c3b0 := decide_eq_true c3
   clear c3
   replace H := Option.bind_eq_some_iff.mp H
   obtain ⟨t331, A40, H⟩ := H
   replace H : (if 0 ≤ x5_1 then ((some (x0_1.set (x5_1 : Int).toNat (⟨t331, (rd_T38 x0_1 x5_1).f1, (rd_T38 x0_1 x5_1).f2, (rd_T38 x0_1 x5_1).f3, (rd_T38 x0_1 x5_1).f4⟩ : S38) : List (S38))).bind fun y332 => ((some (y332.set (x5_1 : Int).toNat (⟨(rd_T38 y332 x5_1).f0, wrap64 (x1_1 + 1), (rd_T38 y332 x5_1).f2, (rd_T38 y332 x5_1).f3, (rd_T38 y332 x5_1).f4⟩ : S38) : List (S38))).bind fun y333 => ((some (y333.set (x5_1 : Int).toNat (⟨(rd_T38 y333 x5_1).f0, (rd_T38 y333 x5_1).f1, wrap64 ((wrap64 (x1_1 + 1)) + 1), (rd_T38 y333 x5_1).f3, (rd_T38 y333 x5_1).f4⟩ : S38) : List (S38))).bind fun y334 => ((some (y334.set (x5_1 : Int).toNat (⟨(rd_T38 y334 x5_1).f0, (rd_T38 y334 x5_1).f1, (rd_T38 y334 x5_1).f2, wrap64 ((wrap64 ((wrap64 (x1_1 + 1)) + 1)) + 1), (rd_T38 y334 x5_1).f4⟩ : S38) : List (S38))).bind fun y335 => (laws_markStockLotS.l0 k1 (y335.set (x5_1 : Int).toNat (⟨(rd_T38 y335 x5_1).f0, (rd_T38 y335 x5_1).f1, (rd_T38 y335 x5_1).f2, (rd_T38 y335 x5_1).f3, ((Int.tmod (wrap64 ((wrap64 ((wrap64 ((wrap64 (x1_1 + 1)) + 1)) + 1)) + 1)) 3) == 0)⟩ : S38)) (wrap64 ((wrap64 ((wrap64 ((wrap64 ((wrap64 (x1_1 + 1)) + 1)) + 1)) + 1)) + 1)) (wrap64 (x5_1 + 1))))))) else (none)) = some (r1, r2) := H
   have A4 := za A40
   clear A40
   by_cases c5 : 0 ≤ x5_1
   rotate_left
   ·rw [if_neg c5] at H
    exact absurd H (by simp)
   rw [if_pos c5] at H
   have c5b0 := decide_eq_true c5
   clear c5
   obtain ⟨y332, hy332⟩ : ∃ y_ : List (S38), y_ = (x0_1.set (x5_1 : Int).toNat (⟨t331, (rd_T38 x0_1 x5_1).f1, (rd_T38 x0_1 x5_1).f2, (rd_T38 x0_1 x5_1).f3, (rd_T38 x0_1 x5_1).f4⟩ : S38)) := ⟨_, rfl⟩
   replace H : ((some (y332.set (x5_1 : Int).toNat (⟨(rd_T38 y332 x5_1).f0, wrap64 (x1_1 + 1), (rd_T38 y332 x5_1).f2, (rd_T38 y332 x5_1).f3, (rd_T38 y332 x5_1).f4⟩ : S38) : List (S38))).bind fun y333 => ((some (y333.set (x5_1 : Int).toNat (⟨(rd_T38 y333 x5_1).f0, (rd_T38 y333 x5_1).f1, wrap64 ((wrap64 (x1_1 + 1)) + 1), (rd_T38 y333 x5_1).f3, (rd_T38 y333 x5_1).f4⟩ : S38) : List (S38))).bind fun y334 => ((some (y334.set (x5_1 : Int).toNat (⟨(rd_T38 y334 x5_1).f0, (rd_T38 y334 x5_1).f1, (rd_T38 y334 x5_1).f2, wrap64 ((wrap64 ((wrap64 (x1_1 + 1)) + 1)) + 1), (rd_T38 y334 x5_1).f4⟩ : S38) : List (S38))).bind fun y335 => (laws_markStockLotS.l0 k1 (y335.set (x5_1 : Int).toNat (⟨(rd_T38 y335 x5_1).f0, (rd_T38 y335 x5_1).f1, (rd_T38 y335 x5_1).f2, (rd_T38 y335 x5_1).f3, ((Int.tmod (wrap64 ((wrap64 ((wrap64 ((wrap64 (x1_1 + 1)) + 1)) + 1)) + 1)) 3) == 0)⟩ : S38)) (wrap64 ((wrap64 ((wrap64 ((wrap64 ((wrap64 (x1_1 + 1)) + 1)) + 1)) + 1)) + 1)) (wrap64 (x5_1 + 1)))))) = some (r1, r2) := by first | (rw [hy332]; with_reducible exact H) | (have H2_ := (Option.bind_some _ _).symm.trans H; rw [hy332]; with_reducible exact H2_) | (have H2_ := (Option.bind_some _ _).symm.trans H; with_reducible exact H2_) | with_reducible exact H | (rw [hy332]; exact H) | exact H
   have Ny332 := za hy332
   clear hy332
   obtain ⟨y333, hy333⟩ : ∃ y_ : List (S38), y_ = (y332.set (x5_1 : Int).toNat (⟨(rd_T38 y332 x5_1).f0, wrap64 (x1_1 + 1), (rd_T38 y332 x5_1).f2, (rd_T38 y332 x5_1).f3, (rd_T38 y332 x5_1).f4⟩ : S38)) := ⟨_, rfl⟩
   replace H : ((some (y333.set (x5_1 : Int).toNat (⟨(rd_T38 y333 x5_1).f0, (rd_T38 y333 x5_1).f1, wrap64 ((wrap64 (x1_1 + 1)) + 1), (rd_T38 y333 x5_1).f3, (rd_T38 y333 x5_1).f4⟩ : S38) : List (S38))).bind fun y334 => ((some (y334.set (x5_1 : Int).toNat (⟨(rd_T38 y334 x5_1).f0, (rd_T38 y334 x5_1).f1, (rd_T38 y334 x5_1).f2, wrap64 ((wrap64 ((wrap64 (x1_1 + 1)) + 1)) + 1), (rd_T38 y334 x5_1).f4⟩ : S38) : List (S38))).bind fun y335 => (laws_markStockLotS.l0 k1 (y335.set (x5_1 : Int).toNat (⟨(rd_T38 y335 x5_1).f0, (rd_T38 y335 x5_1).f1, (rd_T38 y335 x5_1).f2, (rd_T38 y335 x5_1).f3, ((Int.tmod (wrap64 ((wrap64 ((wrap64 ((wrap64 (x1_1 + 1)) + 1)) + 1)) + 1)) 3) == 0)⟩ : S38)) (wrap64 ((wrap64 ((wrap64 ((wrap64 ((wrap64 (x1_1 + 1)) + 1)) + 1)) + 1)) + 1)) (wrap64 (x5_1 + 1))))) = some (r1, r2) := by first | (rw [hy333]; with_reducible exact H) | (have H2_ := (Option.bind_some _ _).symm.trans H; rw [hy333]; with_reducible exact H2_) | (have H2_ := (Option.bind_some _ _).symm.trans H; with_reducible exact H2_) | with_reducible exact H | (rw [hy333]; exact H) | exact H
   have Ny333 := za hy333
   clear hy333
   obtain ⟨y334, hy334⟩ : ∃ y_ : List (S38), y_ = (y333.set (x5_1 : Int).toNat (⟨(rd_T38 y333 x5_1).f0, (rd_T38 y333 x5_1).f1, wrap64 ((wrap64 (x1_1 + 1)) + 1), (rd_T38 y333 x5_1).f3, (rd_T38 y333 x5_1).f4⟩ : S38)) := ⟨_, rfl⟩
   replace H : ((some (y334.set (x5_1 : Int).toNat (⟨(rd_T38 y334 x5_1).f0, (rd_T38 y334 x5_1).f1, (rd_T38 y334 x5_1).f2, wrap64 ((wrap64 ((wrap64 (x1_1 + 1)) + 1)) + 1), (rd_T38 y334 x5_1).f4⟩ : S38) : List (S38))).bind fun y335 => (laws_markStockLotS.l0 k1 (y335.set (x5_1 : Int).toNat (⟨(rd_T38 y335 x5_1).f0, (rd_T38 y335 x5_1).f1, (rd_T38 y335 x5_1).f2, (rd_T38 y335 x5_1).f3, ((Int.tmod (wrap64 ((wrap64 ((wrap64 ((wrap64 (x1_1 + 1)) + 1)) + 1)) + 1)) 3) == 0)⟩ : S38)) (wrap64 ((wrap64 ((wrap64 ((wrap64 ((wrap64 (x1_1 + 1)) + 1)) + 1)) + 1)) + 1)) (wrap64 (x5_1 + 1)))) = some (r1, r2) := by first | (rw [hy334]; with_reducible exact H) | (have H2_ := (Option.bind_some _ _).symm.trans H; rw [hy334]; with_reducible exact H2_) | (have H2_ := (Option.bind_some _ _).symm.trans H; with_reducible exact H2_) | with_reducible exact H | (rw [hy334]; exact H) | exact H
   have Ny334 := za hy334
   clear hy334
   obtain ⟨y335, hy335⟩ : ∃ y_ : List (S38), y_ = (y334.set (x5_1 : Int).toNat (⟨(rd_T38 y334 x5_1).f0, (rd_T38 y334 x5_1).f1, (rd_T38 y334 x5_1).f2, wrap64 ((wrap64 ((wrap64 (x1_1 + 1)) + 1)) + 1), (rd_T38 y334 x5_1).f4⟩ : S38)) := ⟨_, rfl⟩
   replace H : (laws_markStockLotS.l0 k1 (y335.set (x5_1 : Int).toNat (⟨(rd_T38 y335 x5_1).f0, (rd_T38 y335 x5_1).f1, (rd_T38 y335 x5_1).f2, (rd_T38 y335 x5_1).f3, ((Int.tmod (wrap64 ((wrap64 ((wrap64 ((wrap64 (x1_1 + 1)) + 1)) + 1)) + 1)) 3) == 0)⟩ : S38)) (wrap64 ((wrap64 ((wrap64 ((wrap64 ((wrap64 (x1_1 + 1)) + 1)) + 1)) + 1)) + 1)) (wrap64 (x5_1 + 1))) = some (r1, r2) := by first | (rw [hy335]; with_reducible exact H) | (have H2_ := (Option.bind_some _ _).symm.trans H; rw [hy335]; with_reducible exact H2_) | (have H2_ := (Option.bind_some _ _).symm.trans H; with_reducible exact H2_) | with_reducible exact H | (rw [hy335]; exact H) | exact H
   have Ny335 := za hy335
   clear hy335
   obtain ⟨y336, hy336⟩ : ∃ y_ : List (S38), y_ = (y335.set (x5_1 : Int).toNat (⟨(rd_T38 y335 x5_1).f0, (rd_T38 y335 x5_1).f1, (rd_T38 y335 x5_1).f2, (rd_T38 y335 x5_1).f3, ((Int.tmod (wrap64 ((wrap64 ((wrap64 ((wrap64 (x1_1 + 1)) + 1)) + 1)) + 1)) 3) == 0)⟩ : S38)) := ⟨_, rfl⟩
   replace H : (laws_markStockLotS.l0 k1 y336 (wrap64 ((wrap64 ((wrap64 ((wrap64 ((wrap64 (x1_1 + 1)) + 1)) + 1)) + 1)) + 1)) (wrap64 (x5_1 + 1))) = some (r1, r2) := by first | (rw [hy336]; with_reducible exact H) | (have H2_ := (Option.bind_some _ _).symm.trans H; rw [hy336]; with_reducible exact H2_) | (have H2_ := (Option.bind_some _ _).symm.trans H; with_reducible exact H2_) | with_reducible exact H | (rw [hy336]; exact H) | exact H
   have Ny336 := za hy336
   clear hy336
   have H' := za H
   clear H
   obtain ⟨Ao11, co11, eo11⟩ := zx HO_0.out
   subst eo11
   go_wp2_with (first | ((with_reducible refine gate_callee (f := 31) rfl ?_); refine goesL_ (some 15) rfl rfl Try.func31 zG83 rfl #[.int .i64 x1_1] rfl zG54 ?_; (with_reducible refine (laws_markText.calls k1 x1_1 t331 _ A4.out).mono ?_); rintro e w12 ⟨rfl, hb⟩; refine ⟨_, rfl, ?_⟩; have n_ := zA_ (za (zo zK179 hb)) (zA_ (za (Kept.below (S := (fun k_ => P0_ k_)) zG59 hb)) (za (zr zG60 hb))); clear HO_0 HK HB; obtain ⟨HO_0, HK, HB⟩ := n_; (try clear hb); (try clear hk); have p6 : 0 ≤ (x5_1 : Int) := zO; have q6 : (x5_1 : Int) < ((x0_1.length : Int) : Int) := zO; obtain ⟨go6, co6, eo6, gb6, gl6, cl6, HG6⟩ := zam HO_0.out (by omega); (first | cases eo6 | (injection eo6 with ea_ en_ ec_; (first | subst ea_ | (injection ea_ with ea_; subst ea_)); subst ec_; clear en_)); have GB6 := za gb6; have GG6 := za HG6; clear gb6 gl6 HG6; have HMgo6 := za (show (P0_ go6 ∨ w.heap.size ≤ go6) from (HO_0.out.1 _ rfl)); obtain ⟨ce6, hcl6, hM6, hcc6, hfr6⟩ := zag HO_0.out z38 (x5_1 : Int) p6 q6; obtain rfl := k38_openM hM6; have hx6_0 : w12.cell? ⟨go6, (x5_1 : Int).toNat * 5, none⟩ = some (.string ((rd_T38 x0_1 x5_1).f0)) := hcc6 0 _ rfl; have hx6_1 : w12.cell? ⟨go6, (x5_1 : Int).toNat * 5 + 1, none⟩ = some (.int .i64 ((rd_T38 x0_1 x5_1).f1)) := hcc6 1 _ rfl; have hx6_2 : w12.cell? ⟨go6, (x5_1 : Int).toNat * 5 + 2, none⟩ = some (.int .i64 ((rd_T38 x0_1 x5_1).f2)) := hcc6 2 _ rfl; have hx6_3 : w12.cell? ⟨go6, (x5_1 : Int).toNat * 5 + 3, none⟩ = some (.int .i64 ((rd_T38 x0_1 x5_1).f3)) := hcc6 3 _ rfl; have hx6_4 : w12.cell? ⟨go6, (x5_1 : Int).toNat * 5 + 4, none⟩ = some (.bool ((rd_T38 x0_1 x5_1).f4)) := hcc6 4 _ rfl; have hf6_0 : w12.frozen? ⟨go6, (x5_1 : Int).toNat * 5, none⟩ = false := hfr6 0; have hf6_1 : w12.frozen? ⟨go6, (x5_1 : Int).toNat * 5 + 1, none⟩ = false := hfr6 1; have hf6_2 : w12.frozen? ⟨go6, (x5_1 : Int).toNat * 5 + 2, none⟩ = false := hfr6 2; have hf6_3 : w12.frozen? ⟨go6, (x5_1 : Int).toNat * 5 + 3, none⟩ = false := hfr6 3; have hf6_4 : w12.frozen? ⟨go6, (x5_1 : Int).toNat * 5 + 4, none⟩ = false := hfr6 4; clear hcl6 hcc6 hfr6 hM6; replace p6 := eq_true p6; replace q6 := eq_true q6; have HX13 := za (show Kd.R k38 38 w12 w0.heap.size (fun k_ => (P0_ k_ ∨ w.heap.size ≤ k_)) (.slice (some ⟨go6, 0, none⟩) x0_1.length co11) x0_1 from zK179); obtain ⟨ce13, hcl13, hM13, hcc13, hfr13⟩ := zag HX13.out z38 (x5_1 : Int) zO (by have h_ : (x5_1 : Int) < ((x0_1.length : Int) : Int) := zO; first | exact h_ | (have e_ := (Kd.R_reads' HO_0.out).1; omega) | simpa using h_); obtain rfl := k38_openM hM13; have HP13 := zal HX13.out (x5_1 : Int) zO (by have h_ : (x5_1 : Int) < ((x0_1.length : Int) : Int) := zO; first | exact h_ | (have e_ := (Kd.R_reads' HO_0.out).1; omega) | simpa using h_) (seg := [.string t331]) (j := 0) hcl13 hcc13 (show 1 ≤ 5 from by decide) (x' := (⟨t331, (rd_T38 x0_1 x5_1).f1, (rd_T38 x0_1 x5_1).f2, (rd_T38 x0_1 x5_1).f3, (rd_T38 x0_1 x5_1).f4⟩ : S38)) (k38_mkM _ _ _ (⟨t331, (rd_T38 x0_1 x5_1).f1, (rd_T38 x0_1 x5_1).f2, (rd_T38 x0_1 x5_1).f3, (rd_T38 x0_1 x5_1).f4⟩ : S38) ) (fun _ hk => hk); have hx13_0 := hcc13 0 _ rfl; (try simp only [show (k38).sz = 5 from rfl, Nat.mul_one, Nat.add_zero] at hx13_0); have hf13_0 := hfr13 0; (try simp only [show (k38).sz = 5 from rfl, Nat.mul_one, Nat.add_zero] at hf13_0); clear hcl13 hcc13 hfr13 hM13) | ((with_reducible refine gate_store (t := 9) (p := 17) rfl ?_); refine store_event (t := 9) (p := 17) (v := ?vo_w14) (w1 := (w12.setCell ⟨go6, (x5_1 : Int).toNat * 5, none⟩ (.string t331))) ?hg ?ho ?hn ?hr ?_; (case ho => rfl); (case hg => rfl); (case hn => rfl); (case hr => exact zH83); intro w14 hw; have hg : w12.grownBy w14 (some go6) := (by rw [hw]; exact HP13.2); have hp_ : Kd.R k38 38 w14 w0.heap.size (fun k_ => (P0_ k_ ∨ w.heap.size ≤ k_)) (.slice (some ⟨go6, 0, none⟩) x0_1.length co11) y332 := (by rw [hw, Ny332.out]; exact HP13.1); clear HP13; have n_ := zA_ (za (hp_)) (zA_ (za ((by rw [hw]; exact zj (HB.out) GB6.out : Below w0.heap.size w0 w14))) (za (zah (S := (fun k_ => P0_ k_)) hg zG59 (fun k_ e_ => (HO_0.out.1 k_ e_))))); clear HO_0 HB HK; obtain ⟨HO_0, HB, HK⟩ := n_; clear hg hw hp_; have p7 : 0 ≤ (x5_1 : Int) := zO; have q7 : (x5_1 : Int) < ((x0_1.length : Int) : Int) := zO; obtain ⟨ce7, hcl7, hM7, hcc7, hfr7⟩ := zag HO_0.out z38 (x5_1 : Int) p7 q7; obtain rfl := k38_openM hM7; have hx7_0 : w14.cell? ⟨go6, (x5_1 : Int).toNat * 5, none⟩ = some (.string ((rd_T38 y332 x5_1).f0)) := hcc7 0 _ rfl; have hx7_1 : w14.cell? ⟨go6, (x5_1 : Int).toNat * 5 + 1, none⟩ = some (.int .i64 ((rd_T38 y332 x5_1).f1)) := hcc7 1 _ rfl; have hx7_2 : w14.cell? ⟨go6, (x5_1 : Int).toNat * 5 + 2, none⟩ = some (.int .i64 ((rd_T38 y332 x5_1).f2)) := hcc7 2 _ rfl; have hx7_3 : w14.cell? ⟨go6, (x5_1 : Int).toNat * 5 + 3, none⟩ = some (.int .i64 ((rd_T38 y332 x5_1).f3)) := hcc7 3 _ rfl; have hx7_4 : w14.cell? ⟨go6, (x5_1 : Int).toNat * 5 + 4, none⟩ = some (.bool ((rd_T38 y332 x5_1).f4)) := hcc7 4 _ rfl; have hf7_0 : w14.frozen? ⟨go6, (x5_1 : Int).toNat * 5, none⟩ = false := hfr7 0; have hf7_1 : w14.frozen? ⟨go6, (x5_1 : Int).toNat * 5 + 1, none⟩ = false := hfr7 1; have hf7_2 : w14.frozen? ⟨go6, (x5_1 : Int).toNat * 5 + 2, none⟩ = false := hfr7 2; have hf7_3 : w14.frozen? ⟨go6, (x5_1 : Int).toNat * 5 + 3, none⟩ = false := hfr7 3; have hf7_4 : w14.frozen? ⟨go6, (x5_1 : Int).toNat * 5 + 4, none⟩ = false := hfr7 4; clear hcl7 hcc7 hfr7 hM7; replace p7 := eq_true p7; replace q7 := eq_true q7; have HX15 := za (show Kd.R k38 38 w14 w0.heap.size (fun k_ => (P0_ k_ ∨ w.heap.size ≤ k_)) (.slice (some ⟨go6, 0, none⟩) x0_1.length co11) y332 from zK179); obtain ⟨ce15, hcl15, hM15, hcc15, hfr15⟩ := zag HX15.out z38 (x5_1 : Int) zO (by have h_ : (x5_1 : Int) < ((x0_1.length : Int) : Int) := zO; first | exact h_ | (have e_ := (Kd.R_reads' HO_0.out).1; omega) | simpa using h_); obtain rfl := k38_openM hM15; have HP15 := zal HX15.out (x5_1 : Int) zO (by have h_ : (x5_1 : Int) < ((x0_1.length : Int) : Int) := zO; first | exact h_ | (have e_ := (Kd.R_reads' HO_0.out).1; omega) | simpa using h_) (seg := [.int .i64 (wrap64 (x1_1 + 1))]) (j := 1) hcl15 hcc15 (show 2 ≤ 5 from by decide) (x' := (⟨(rd_T38 y332 x5_1).f0, wrap64 (x1_1 + 1), (rd_T38 y332 x5_1).f2, (rd_T38 y332 x5_1).f3, (rd_T38 y332 x5_1).f4⟩ : S38)) (k38_mkM _ _ _ (⟨(rd_T38 y332 x5_1).f0, wrap64 (x1_1 + 1), (rd_T38 y332 x5_1).f2, (rd_T38 y332 x5_1).f3, (rd_T38 y332 x5_1).f4⟩ : S38) ) (fun _ hk => hk); have hx15_1 := hcc15 1 _ rfl; (try simp only [show (k38).sz = 5 from rfl, Nat.mul_one, Nat.add_zero] at hx15_1); have hf15_1 := hfr15 1; (try simp only [show (k38).sz = 5 from rfl, Nat.mul_one, Nat.add_zero] at hf15_1); clear hcl15 hcc15 hfr15 hM15) | ((with_reducible refine gate_store (t := 3) (p := 24) rfl ?_); refine store_event (t := 3) (p := 24) (v := ?vo_w16) (w1 := (w14.setCell ⟨go6, (x5_1 : Int).toNat * 5 + 1, none⟩ (.int .i64 (wrap64 (x1_1 + 1))))) ?hg ?ho ?hn ?hr ?_; (case ho => rfl); (case hg => rfl); (case hn => rfl); (case hr => exact zH83); intro w16 hw; have hg : w14.grownBy w16 (some go6) := (by rw [hw]; exact HP15.2); have hp_ : Kd.R k38 38 w16 w0.heap.size (fun k_ => (P0_ k_ ∨ w.heap.size ≤ k_)) (.slice (some ⟨go6, 0, none⟩) x0_1.length co11) y333 := (by rw [hw, Ny333.out]; exact HP15.1); clear HP15; have n_ := zA_ (za (hp_)) (zA_ (za ((by rw [hw]; exact zj (HB.out) GB6.out : Below w0.heap.size w0 w16))) (za (zah (S := (fun k_ => P0_ k_)) hg zG59 (fun k_ e_ => (HO_0.out.1 k_ e_))))); clear HO_0 HB HK; obtain ⟨HO_0, HB, HK⟩ := n_; clear hg hw hp_; have p8 : 0 ≤ (x5_1 : Int) := zO; have q8 : (x5_1 : Int) < ((x0_1.length : Int) : Int) := zO; obtain ⟨ce8, hcl8, hM8, hcc8, hfr8⟩ := zag HO_0.out z38 (x5_1 : Int) p8 q8; obtain rfl := k38_openM hM8; have hx8_0 : w16.cell? ⟨go6, (x5_1 : Int).toNat * 5, none⟩ = some (.string ((rd_T38 y333 x5_1).f0)) := hcc8 0 _ rfl; have hx8_1 : w16.cell? ⟨go6, (x5_1 : Int).toNat * 5 + 1, none⟩ = some (.int .i64 ((rd_T38 y333 x5_1).f1)) := hcc8 1 _ rfl; have hx8_2 : w16.cell? ⟨go6, (x5_1 : Int).toNat * 5 + 2, none⟩ = some (.int .i64 ((rd_T38 y333 x5_1).f2)) := hcc8 2 _ rfl; have hx8_3 : w16.cell? ⟨go6, (x5_1 : Int).toNat * 5 + 3, none⟩ = some (.int .i64 ((rd_T38 y333 x5_1).f3)) := hcc8 3 _ rfl; have hx8_4 : w16.cell? ⟨go6, (x5_1 : Int).toNat * 5 + 4, none⟩ = some (.bool ((rd_T38 y333 x5_1).f4)) := hcc8 4 _ rfl; have hf8_0 : w16.frozen? ⟨go6, (x5_1 : Int).toNat * 5, none⟩ = false := hfr8 0; have hf8_1 : w16.frozen? ⟨go6, (x5_1 : Int).toNat * 5 + 1, none⟩ = false := hfr8 1; have hf8_2 : w16.frozen? ⟨go6, (x5_1 : Int).toNat * 5 + 2, none⟩ = false := hfr8 2; have hf8_3 : w16.frozen? ⟨go6, (x5_1 : Int).toNat * 5 + 3, none⟩ = false := hfr8 3; have hf8_4 : w16.frozen? ⟨go6, (x5_1 : Int).toNat * 5 + 4, none⟩ = false := hfr8 4; clear hcl8 hcc8 hfr8 hM8; replace p8 := eq_true p8; replace q8 := eq_true q8; have HX17 := za (show Kd.R k38 38 w16 w0.heap.size (fun k_ => (P0_ k_ ∨ w.heap.size ≤ k_)) (.slice (some ⟨go6, 0, none⟩) x0_1.length co11) y333 from zK179); obtain ⟨ce17, hcl17, hM17, hcc17, hfr17⟩ := zag HX17.out z38 (x5_1 : Int) zO (by have h_ : (x5_1 : Int) < ((x0_1.length : Int) : Int) := zO; first | exact h_ | (have e_ := (Kd.R_reads' HO_0.out).1; omega) | simpa using h_); obtain rfl := k38_openM hM17; have HP17 := zal HX17.out (x5_1 : Int) zO (by have h_ : (x5_1 : Int) < ((x0_1.length : Int) : Int) := zO; first | exact h_ | (have e_ := (Kd.R_reads' HO_0.out).1; omega) | simpa using h_) (seg := [.int .i64 (wrap64 ((wrap64 (x1_1 + 1)) + 1))]) (j := 2) hcl17 hcc17 (show 3 ≤ 5 from by decide) (x' := (⟨(rd_T38 y333 x5_1).f0, (rd_T38 y333 x5_1).f1, wrap64 ((wrap64 (x1_1 + 1)) + 1), (rd_T38 y333 x5_1).f3, (rd_T38 y333 x5_1).f4⟩ : S38)) (k38_mkM _ _ _ (⟨(rd_T38 y333 x5_1).f0, (rd_T38 y333 x5_1).f1, wrap64 ((wrap64 (x1_1 + 1)) + 1), (rd_T38 y333 x5_1).f3, (rd_T38 y333 x5_1).f4⟩ : S38) ) (fun _ hk => hk); have hx17_2 := hcc17 2 _ rfl; (try simp only [show (k38).sz = 5 from rfl, Nat.mul_one, Nat.add_zero] at hx17_2); have hf17_2 := hfr17 2; (try simp only [show (k38).sz = 5 from rfl, Nat.mul_one, Nat.add_zero] at hf17_2); clear hcl17 hcc17 hfr17 hM17) | ((with_reducible refine gate_store (t := 3) (p := 31) rfl ?_); refine store_event (t := 3) (p := 31) (v := ?vo_w18) (w1 := (w16.setCell ⟨go6, (x5_1 : Int).toNat * 5 + 2, none⟩ (.int .i64 (wrap64 ((wrap64 (x1_1 + 1)) + 1))))) ?hg ?ho ?hn ?hr ?_; (case ho => rfl); (case hg => rfl); (case hn => rfl); (case hr => exact zH83); intro w18 hw; have hg : w16.grownBy w18 (some go6) := (by rw [hw]; exact HP17.2); have hp_ : Kd.R k38 38 w18 w0.heap.size (fun k_ => (P0_ k_ ∨ w.heap.size ≤ k_)) (.slice (some ⟨go6, 0, none⟩) x0_1.length co11) y334 := (by rw [hw, Ny334.out]; exact HP17.1); clear HP17; have n_ := zA_ (za (hp_)) (zA_ (za ((by rw [hw]; exact zj (HB.out) GB6.out : Below w0.heap.size w0 w18))) (za (zah (S := (fun k_ => P0_ k_)) hg zG59 (fun k_ e_ => (HO_0.out.1 k_ e_))))); clear HO_0 HB HK; obtain ⟨HO_0, HB, HK⟩ := n_; clear hg hw hp_; have p9 : 0 ≤ (x5_1 : Int) := zO; have q9 : (x5_1 : Int) < ((x0_1.length : Int) : Int) := zO; obtain ⟨ce9, hcl9, hM9, hcc9, hfr9⟩ := zag HO_0.out z38 (x5_1 : Int) p9 q9; obtain rfl := k38_openM hM9; have hx9_0 : w18.cell? ⟨go6, (x5_1 : Int).toNat * 5, none⟩ = some (.string ((rd_T38 y334 x5_1).f0)) := hcc9 0 _ rfl; have hx9_1 : w18.cell? ⟨go6, (x5_1 : Int).toNat * 5 + 1, none⟩ = some (.int .i64 ((rd_T38 y334 x5_1).f1)) := hcc9 1 _ rfl; have hx9_2 : w18.cell? ⟨go6, (x5_1 : Int).toNat * 5 + 2, none⟩ = some (.int .i64 ((rd_T38 y334 x5_1).f2)) := hcc9 2 _ rfl; have hx9_3 : w18.cell? ⟨go6, (x5_1 : Int).toNat * 5 + 3, none⟩ = some (.int .i64 ((rd_T38 y334 x5_1).f3)) := hcc9 3 _ rfl; have hx9_4 : w18.cell? ⟨go6, (x5_1 : Int).toNat * 5 + 4, none⟩ = some (.bool ((rd_T38 y334 x5_1).f4)) := hcc9 4 _ rfl; have hf9_0 : w18.frozen? ⟨go6, (x5_1 : Int).toNat * 5, none⟩ = false := hfr9 0; have hf9_1 : w18.frozen? ⟨go6, (x5_1 : Int).toNat * 5 + 1, none⟩ = false := hfr9 1; have hf9_2 : w18.frozen? ⟨go6, (x5_1 : Int).toNat * 5 + 2, none⟩ = false := hfr9 2; have hf9_3 : w18.frozen? ⟨go6, (x5_1 : Int).toNat * 5 + 3, none⟩ = false := hfr9 3; have hf9_4 : w18.frozen? ⟨go6, (x5_1 : Int).toNat * 5 + 4, none⟩ = false := hfr9 4; clear hcl9 hcc9 hfr9 hM9; replace p9 := eq_true p9; replace q9 := eq_true q9; have HX19 := za (show Kd.R k38 38 w18 w0.heap.size (fun k_ => (P0_ k_ ∨ w.heap.size ≤ k_)) (.slice (some ⟨go6, 0, none⟩) x0_1.length co11) y334 from zK179); obtain ⟨ce19, hcl19, hM19, hcc19, hfr19⟩ := zag HX19.out z38 (x5_1 : Int) zO (by have h_ : (x5_1 : Int) < ((x0_1.length : Int) : Int) := zO; first | exact h_ | (have e_ := (Kd.R_reads' HO_0.out).1; omega) | simpa using h_); obtain rfl := k38_openM hM19; have HP19 := zal HX19.out (x5_1 : Int) zO (by have h_ : (x5_1 : Int) < ((x0_1.length : Int) : Int) := zO; first | exact h_ | (have e_ := (Kd.R_reads' HO_0.out).1; omega) | simpa using h_) (seg := [.int .i64 (wrap64 ((wrap64 ((wrap64 (x1_1 + 1)) + 1)) + 1))]) (j := 3) hcl19 hcc19 (show 4 ≤ 5 from by decide) (x' := (⟨(rd_T38 y334 x5_1).f0, (rd_T38 y334 x5_1).f1, (rd_T38 y334 x5_1).f2, wrap64 ((wrap64 ((wrap64 (x1_1 + 1)) + 1)) + 1), (rd_T38 y334 x5_1).f4⟩ : S38)) (k38_mkM _ _ _ (⟨(rd_T38 y334 x5_1).f0, (rd_T38 y334 x5_1).f1, (rd_T38 y334 x5_1).f2, wrap64 ((wrap64 ((wrap64 (x1_1 + 1)) + 1)) + 1), (rd_T38 y334 x5_1).f4⟩ : S38) ) (fun _ hk => hk); have hx19_3 := hcc19 3 _ rfl; (try simp only [show (k38).sz = 5 from rfl, Nat.mul_one, Nat.add_zero] at hx19_3); have hf19_3 := hfr19 3; (try simp only [show (k38).sz = 5 from rfl, Nat.mul_one, Nat.add_zero] at hf19_3); clear hcl19 hcc19 hfr19 hM19) | ((with_reducible refine gate_store (t := 3) (p := 38) rfl ?_); refine store_event (t := 3) (p := 38) (v := ?vo_w20) (w1 := (w18.setCell ⟨go6, (x5_1 : Int).toNat * 5 + 3, none⟩ (.int .i64 (wrap64 ((wrap64 ((wrap64 (x1_1 + 1)) + 1)) + 1))))) ?hg ?ho ?hn ?hr ?_; (case ho => rfl); (case hg => rfl); (case hn => rfl); (case hr => exact zH83); intro w20 hw; have hg : w18.grownBy w20 (some go6) := (by rw [hw]; exact HP19.2); have hp_ : Kd.R k38 38 w20 w0.heap.size (fun k_ => (P0_ k_ ∨ w.heap.size ≤ k_)) (.slice (some ⟨go6, 0, none⟩) x0_1.length co11) y335 := (by rw [hw, Ny335.out]; exact HP19.1); clear HP19; have n_ := zA_ (za (hp_)) (zA_ (za ((by rw [hw]; exact zj (HB.out) GB6.out : Below w0.heap.size w0 w20))) (za (zah (S := (fun k_ => P0_ k_)) hg zG59 (fun k_ e_ => (HO_0.out.1 k_ e_))))); clear HO_0 HB HK; obtain ⟨HO_0, HB, HK⟩ := n_; clear hg hw hp_; have p10 : 0 ≤ (x5_1 : Int) := zO; have q10 : (x5_1 : Int) < ((x0_1.length : Int) : Int) := zO; obtain ⟨ce10, hcl10, hM10, hcc10, hfr10⟩ := zag HO_0.out z38 (x5_1 : Int) p10 q10; obtain rfl := k38_openM hM10; have hx10_0 : w20.cell? ⟨go6, (x5_1 : Int).toNat * 5, none⟩ = some (.string ((rd_T38 y335 x5_1).f0)) := hcc10 0 _ rfl; have hx10_1 : w20.cell? ⟨go6, (x5_1 : Int).toNat * 5 + 1, none⟩ = some (.int .i64 ((rd_T38 y335 x5_1).f1)) := hcc10 1 _ rfl; have hx10_2 : w20.cell? ⟨go6, (x5_1 : Int).toNat * 5 + 2, none⟩ = some (.int .i64 ((rd_T38 y335 x5_1).f2)) := hcc10 2 _ rfl; have hx10_3 : w20.cell? ⟨go6, (x5_1 : Int).toNat * 5 + 3, none⟩ = some (.int .i64 ((rd_T38 y335 x5_1).f3)) := hcc10 3 _ rfl; have hx10_4 : w20.cell? ⟨go6, (x5_1 : Int).toNat * 5 + 4, none⟩ = some (.bool ((rd_T38 y335 x5_1).f4)) := hcc10 4 _ rfl; have hf10_0 : w20.frozen? ⟨go6, (x5_1 : Int).toNat * 5, none⟩ = false := hfr10 0; have hf10_1 : w20.frozen? ⟨go6, (x5_1 : Int).toNat * 5 + 1, none⟩ = false := hfr10 1; have hf10_2 : w20.frozen? ⟨go6, (x5_1 : Int).toNat * 5 + 2, none⟩ = false := hfr10 2; have hf10_3 : w20.frozen? ⟨go6, (x5_1 : Int).toNat * 5 + 3, none⟩ = false := hfr10 3; have hf10_4 : w20.frozen? ⟨go6, (x5_1 : Int).toNat * 5 + 4, none⟩ = false := hfr10 4; clear hcl10 hcc10 hfr10 hM10; replace p10 := eq_true p10; replace q10 := eq_true q10; have HX21 := za (show Kd.R k38 38 w20 w0.heap.size (fun k_ => (P0_ k_ ∨ w.heap.size ≤ k_)) (.slice (some ⟨go6, 0, none⟩) x0_1.length co11) y335 from zK179); obtain ⟨ce21, hcl21, hM21, hcc21, hfr21⟩ := zag HX21.out z38 (x5_1 : Int) zO (by have h_ : (x5_1 : Int) < ((x0_1.length : Int) : Int) := zO; first | exact h_ | (have e_ := (Kd.R_reads' HO_0.out).1; omega) | simpa using h_); obtain rfl := k38_openM hM21; have HP21 := zal HX21.out (x5_1 : Int) zO (by have h_ : (x5_1 : Int) < ((x0_1.length : Int) : Int) := zO; first | exact h_ | (have e_ := (Kd.R_reads' HO_0.out).1; omega) | simpa using h_) (seg := [.bool ((Int.tmod (wrap64 ((wrap64 ((wrap64 ((wrap64 (x1_1 + 1)) + 1)) + 1)) + 1)) 3) == 0)]) (j := 4) hcl21 hcc21 (show 5 ≤ 5 from by decide) (x' := (⟨(rd_T38 y335 x5_1).f0, (rd_T38 y335 x5_1).f1, (rd_T38 y335 x5_1).f2, (rd_T38 y335 x5_1).f3, ((Int.tmod (wrap64 ((wrap64 ((wrap64 ((wrap64 (x1_1 + 1)) + 1)) + 1)) + 1)) 3) == 0)⟩ : S38)) (k38_mkM _ _ _ (⟨(rd_T38 y335 x5_1).f0, (rd_T38 y335 x5_1).f1, (rd_T38 y335 x5_1).f2, (rd_T38 y335 x5_1).f3, ((Int.tmod (wrap64 ((wrap64 ((wrap64 ((wrap64 (x1_1 + 1)) + 1)) + 1)) + 1)) 3) == 0)⟩ : S38) ) (fun _ hk => hk); have hx21_4 := hcc21 4 _ rfl; (try simp only [show (k38).sz = 5 from rfl, Nat.mul_one, Nat.add_zero] at hx21_4); have hf21_4 := hfr21 4; (try simp only [show (k38).sz = 5 from rfl, Nat.mul_one, Nat.add_zero] at hf21_4); clear hcl21 hcc21 hfr21 hM21) | ((with_reducible refine gate_store (t := 4) (p := 47) rfl ?_); refine store_event (t := 4) (p := 47) (v := ?vo_w22) (w1 := (w20.setCell ⟨go6, (x5_1 : Int).toNat * 5 + 4, none⟩ (.bool ((Int.tmod (wrap64 ((wrap64 ((wrap64 ((wrap64 (x1_1 + 1)) + 1)) + 1)) + 1)) 3) == 0)))) ?hg ?ho ?hn ?hr ?_; (case ho => rfl); (case hg => rfl); (case hn => rfl); (case hr => exact zH83); intro w22 hw; have hg : w20.grownBy w22 (some go6) := (by rw [hw]; exact HP21.2); have hp_ : Kd.R k38 38 w22 w0.heap.size (fun k_ => (P0_ k_ ∨ w.heap.size ≤ k_)) (.slice (some ⟨go6, 0, none⟩) x0_1.length co11) y336 := (by rw [hw, Ny336.out]; exact HP21.1); clear HP21; have n_ := zA_ (za (hp_)) (zA_ (za ((by rw [hw]; exact zj (HB.out) GB6.out : Below w0.heap.size w0 w22))) (za (zah (S := (fun k_ => P0_ k_)) hg zG59 (fun k_ e_ => (HO_0.out.1 k_ e_))))); clear HO_0 HB HK; obtain ⟨HO_0, HB, HK⟩ := n_; clear hg hw hp_))
   go_roundg k1
   case measure => have := HK1.out; omega
   case rel => exact ⟨(y336), (wrap64 ((wrap64 ((wrap64 ((wrap64 ((wrap64 (x1_1 + 1)) + 1)) + 1)) + 1)) + 1)), (wrap64 (x5_1 + 1)), zG82, zG82, H', ⟨zH88⟩, ⟨zH74⟩, ⟨zH46⟩, ⟨zH60⟩⟩
/-! ### laws_markStock: function 18 -/
def laws_markStock.f (k : Nat) (a0_0 : Int) (a0_1 : Int) (a0_2 : Int) (a0_3 : Int) (a0_4 : Int) (l0_5 : List (S38)) (a1 : Int) : Option (Int × (List (S38))) := (laws_markStockLotS.f k l0_5 a1).bind fun bt338 => (some (bt338.1, bt338.2))
theorem laws_markStock.mono : ∀ a0 a1 a2 a3 a4 a5 a6 k, LeO (laws_markStock.f k a0 a1 a2 a3 a4 a5 a6) (laws_markStock.f (k + 1) a0 a1 a2 a3 a4 a5 a6) := by
 intro a0 a1 a2 a3 a4 a5 a6 k
 unfold laws_markStock.f
 repeat' first
   | (with_reducible exact laws_markStockLotS.mono _ _ _)
   | (with_reducible exact LeO.refl _)
   | (with_reducible exact LeO.none _)
   | (with_reducible refine LeO.ite ?_ ?_)
   | (with_reducible refine LeO.bind ?_ (fun _ => ?_))
   | exact laws_markStockLotS.mono _ _ _
   | exact LeO.none _
   | refine LeO.ite ?_ ?_
   | refine LeO.bind ?_ (fun _ => ?_)
set_option maxHeartbeats 64000000 in
set_option maxRecDepth 100000 in
theorem laws_markStock.calls (k : Nat) (a0_0 : Int) (a0_1 : Int) (a0_2 : Int) (a0_3 : Int) (a0_4 : Int) (P0_5_ : Nat → Prop) (u9000_ : Value) (l0_5 : List (S38)) (a1 : Int) (r1 : Int) (r2 : List (S38)) (w0 w : World) (hB : Below w0.heap.size w0 w) (ho0_5 : Kd.R k38 38 w w0.heap.size P0_5_ u9000_ l0_5) (h : laws_markStock.f k a0_0 a0_1 a0_2 a0_3 a0_4 l0_5 a1 = some (r1, r2)) :
  Calls Try.prog 18 #[.agg (zs6 a0_0 a0_1 a0_2 a0_3 a0_4 u9000_), .int .i64 a1] w fun e w' => e = .returned (.int .i64 r1) ∧ Kd.R k38 38 w' w0.heap.size (fun k_ => (P0_5_ k_ ∨ w.heap.size ≤ k_)) u9000_ r2 ∧ Below w0.heap.size w0 w' ∧ Kept w w' (fun k_ => P0_5_ k_) := by
 have hu29 := Try.underlying29
 obtain ⟨HO0_5, HK, HW0, HB⟩ := zD4 (show Kd.R k38 38 w w0.heap.size (fun k_ => (P0_5_ k_ ∨ w.heap.size ≤ k_)) u9000_ l0_5 from zs ho0_5 (fun k_ hk => (.inl hk))) (Kept.refl w (fun k_ => P0_5_ k_)) hB.size hB
 clear hB
 have H : ((laws_markStockLotS.f k l0_5 a1).bind fun bt338 => (some (bt338.1, bt338.2))) = some (r1, r2) := h
 clear h
 replace H := Option.bind_eq_some_iff.mp H
 obtain ⟨⟨t338, t339⟩, A30, H⟩ := H
 replace H : (some (t338, t339)) = some (r1, r2) := H
 have A3 := za A30
 clear A30
 simp only [Option.some.injEq, Prod.mk.injEq] at H
 obtain ⟨rfl, rfl⟩ := H
 obtain ⟨Ao4, co4, eo4⟩ := zx HO0_5.out
 subst eo4
 go_enter Try.func18, Try.ntmps18
 go_wp2_with (first | ((with_reducible refine gate_dst (N := 2) rfl ?_); refine box_event ?hg (N := 2) ?hd (cs := (zs6 a0_0 a0_1 a0_2 a0_3 a0_4 (.slice Ao4 l0_5.length co4))) (t := 29) ?hr ?_; (case hd => rfl); (case hg => rfl); (case hr => exact zH83); intro gb337 hg w5 hbox hb; have n_ := zA_ (za (zo zK167 hb)) (zA_ (za (Kept.below (S := (fun k_ => P0_5_ k_)) zG59 hb)) (zA_ (za (zr zG60 hb)) (zA_ (za (hbox)) (zA_ (zN1 w.heap.size hg (by first | exact HK.out.1 | exact (show Kept w _ (fun k_ => P0_5_ k_) from by repeat (first | (with_reducible first | exact HK.out | apply Kept.alloc | apply Kept.drewN | apply Kept.drew) | exact HK.out)).1)) (zN1 w0.heap.size hg (zp zG60)))))); clear HO0_5 HK HB; obtain ⟨HO0_5, HK, HB, BK337, GW337, GE337⟩ := n_; clear hb hbox hg; obtain ⟨hcz6_0, hcz6_1, hcz6_2, hcz6_3, hcz6_4, hcz6_5, hfz6_0, hfz6_1, hfz6_2, hfz6_3, hfz6_4, hfz6_5⟩ := zB6 BK337.out) | ((with_reducible refine gate_callee (f := 32) rfl ?_); refine goesL_ (some 8) rfl rfl Try.func32 zG83 rfl #[.slice Ao4 l0_5.length co4, .int .i64 a1] rfl zG54 ?_; (with_reducible refine (laws_markStockLotS.calls k (fun k_ => some k_ = (.slice Ao4 l0_5.length co4 : Value).ownBlock) (.slice Ao4 l0_5.length co4) l0_5 a1 t338 t339 w0 _ ?side1 ?side2 A3.out).mono ?_); (case side1 => repeat (first | (with_reducible first | exact HB.out | apply zi | apply zd | apply zh | refine zj ?_ GE337.out) | exact HB.out)); (case side2 => exact zaj rfl HO0_5.out); rintro e w7 ⟨rfl, hy0, hb, hkp⟩; refine ⟨_, rfl, ?_⟩; have n_ := zA_ (za (zap rfl hy0 (fun k_ e_ => HO0_5.out.1 k_ e_))) (zA_ (za (zab (by (with_reducible repeat (first | refine zf ?_ _ | refine zg ?_ | refine ze ?_ _)); exact BK337.out) hkp (fun hs_ => (fun e_ => (zad HO0_5.out BK337.out zG84) e_) hs_))) (zA_ (za (Kept.then_ (S := (fun k_ => P0_5_ k_)) (by repeat (first | (with_reducible first | exact HK.out | apply Kept.alloc | apply Kept.drewN | apply Kept.drew | refine Kept.setCell ?_ (.inr GW337.out) _) | exact HK.out)) hkp (fun k_ hs_ => (fun e_ => (HO0_5.out.1 k_ e_.symm)) hs_))) (za (hb)))); clear HO0_5 BK337 HK HB; obtain ⟨HO0_5, BK337, HK, HB⟩ := n_; (try clear hb); (try clear hkp); (try clear hy0)))
 go_ret
 exact ⟨zH68, zH71, by repeat (first | (with_reducible first | exact HB.out | apply zi | apply zd | apply zh | refine zj ?_ GE337.out) | exact HB.out), by repeat (first | (with_reducible first | exact HK.out | apply Kept.alloc | apply Kept.drewN | apply Kept.drew | refine Kept.setCell ?_ (.inr GW337.out) _) | exact HK.out)⟩

/-! ### laws_heldStockObsS: function 19 -/
def laws_heldStockObsS.l0 : Nat → List (S36) → Int → Int → Option (Int)
 | 0, _, _, _ => none
 | k + 1, x0, x1, x5 => if x5 < (x0.length : Int) then (if 0 ≤ x5 then (if ((rd_T36 x0 x5).f0) = x1 then (if ((rd_T36 x0 x5).f1) = (wrap64 (x1 + 1)) then (laws_heldStockObsS.l0 k x0 (wrap64 ((wrap64 (x1 + 1)) + 1)) (wrap64 (x5 + 1))) else (some (-1))) else (some (-1))) else (none)) else (some x1)
def laws_heldStockObsS.f (k : Nat) (l0 : List (S36)) (a1 : Int) : Option (Int) := laws_heldStockObsS.l0 k l0 a1 0
theorem laws_heldStockObsS.mono_l : ∀ k, (∀ y0 y1 y2, LeO (laws_heldStockObsS.l0 k y0 y1 y2) (laws_heldStockObsS.l0 (k + 1) y0 y1 y2))
 | 0 => fun _ _ _ r h => by simp [laws_heldStockObsS.l0] at h
 | k + 1 => by
  have ih0 := laws_heldStockObsS.mono_l k
  ·intro y0 y1 y2
   unfold laws_heldStockObsS.l0
   repeat' first
   | (with_reducible exact ih0 _ _ _)
   | (with_reducible exact LeO.refl _)
   | (with_reducible exact LeO.none _)
   | (with_reducible refine LeO.ite ?_ ?_)
   | (with_reducible refine LeO.bind ?_ (fun _ => ?_))
   | exact ih0 _ _ _
   | exact LeO.none _
   | refine LeO.ite ?_ ?_
   | refine LeO.bind ?_ (fun _ => ?_)
theorem laws_heldStockObsS.mono : ∀ a0 a1 k, LeO (laws_heldStockObsS.f k a0 a1) (laws_heldStockObsS.f (k + 1) a0 a1) := by
 intro a0 a1 k
 have ih0 := laws_heldStockObsS.mono_l k
 unfold laws_heldStockObsS.f
 repeat' first
   | (with_reducible exact ih0 _ _ _)
   | (with_reducible exact LeO.refl _)
   | (with_reducible exact LeO.none _)
   | (with_reducible refine LeO.ite ?_ ?_)
   | (with_reducible refine LeO.bind ?_ (fun _ => ?_))
   | exact ih0 _ _ _
   | exact LeO.none _
   | refine LeO.ite ?_ ?_
   | refine LeO.bind ?_ (fun _ => ?_)
set_option maxHeartbeats 64000000 in
set_option maxRecDepth 100000 in
theorem laws_heldStockObsS.calls (k : Nat) (A0 : Option Addr) (c0 : Nat) (l0 : List (S36)) (a1 : Int) (r : Int) (w : World) (hr0 : Kd.C k36 w A0 l0.length l0) (hc0 : l0.length ≤ c0) (h : laws_heldStockObsS.f k l0 a1 = some r) :
  Calls Try.prog 19 #[.slice A0 l0.length c0, .int .i64 a1] w fun e w' => e = .returned (.int .i64 r) ∧ Drawn0 w w' := by
 obtain ⟨HR0, HC0⟩ := zD2 hr0 hc0
 clear hr0 hc0
 have H : (laws_heldStockObsS.l0 k l0 a1 0) = some r := h
 clear h
 have H' := za H
 clear H
 go_enter Try.func19, Try.ntmps19
 go_wp2
 go_loopg [1, 5] k (fun kq v1 v5 w' => ∃ (x1_1 : Int) (x5_1 : Int), v1 = .int .i64 x1_1 ∧ v5 = .int .i64 x5_1 ∧ Aside0 (laws_heldStockObsS.l0 kq l0 x1_1 x5_1 = some r) ∧ Aside0 (kq ≤ k) ∧ Drawn0 w w')
 case atStart => exact ⟨(a1), (0), zG82, zG82, H', ⟨Nat.le_refl _⟩, zH77⟩
 case round =>
  clear H'
  obtain ⟨x1_1, x5_1, rfl, rfl, HA, HK1, ⟨m1, rfl⟩⟩ := hrel
  cases gk with
  | zero => exact absurd HA.out (by simp [laws_heldStockObsS.l0])
  | succ k1 =>
   have H := HA.out
   clear HA
   simp only [laws_heldStockObsS.l0] at H
   by_cases c3 : x5_1 < (l0.length : Int)
   rotate_left
   ·rw [if_neg c3] at H
    have c3b0 := decide_eq_false c3
    clear c3
    obtain rfl := Option.some.inj H
    go_wp2
    go_ret
    exact zH49

   rw [if_pos c3] at H
   have c3b0 := decide_eq_true c3
   clear c3
   by_cases c4 : 0 ≤ x5_1
   rotate_left
   ·rw [if_neg c4] at H
    exact absurd H (by simp)
   rw [if_pos c4] at H
   have c4b0 := decide_eq_true c4
   clear c4
   by_cases c5 : ((rd_T36 l0 x5_1).f0) = x1_1
   rotate_left
   ·rw [if_neg c5] at H
    have c5b0 : (((rd_T36 l0 x5_1).f0) == x1_1) = false := beq_eq_false_iff_ne.mpr c5
    have c5b1 : (((rd_T36 l0 x5_1).f0) != x1_1) = true := bne_iff_ne.mpr c5
    obtain rfl := Option.some.inj H
    have p340 : 0 ≤ (x5_1 : Int) := zO
    have q340 : x5_1 < (l0.length : Int) := zO
    obtain ⟨ad340, e340, hx340_0, hx340_1⟩ := at_T36 HR0.out x5_1 p340 q340
    cases e340
    replace p340 := eq_true p340
    replace q340 := eq_true q340
    go_wp2
    go_ret
    exact zH49
   rw [if_pos c5] at H
   have c5b0 : (((rd_T36 l0 x5_1).f0) == x1_1) = true := beq_iff_eq.mpr c5
   have c5b1 : (((rd_T36 l0 x5_1).f0) != x1_1) = false := bne_eq_false_iff_eq.mpr c5
   clear c5
   by_cases c6 : ((rd_T36 l0 x5_1).f1) = (wrap64 (x1_1 + 1))
   rotate_left
   ·rw [if_neg c6] at H
    have c6b0 : (((rd_T36 l0 x5_1).f1) == (wrap64 (x1_1 + 1))) = false := beq_eq_false_iff_ne.mpr c6
    have c6b1 : (((rd_T36 l0 x5_1).f1) != (wrap64 (x1_1 + 1))) = true := bne_iff_ne.mpr c6
    obtain rfl := Option.some.inj H
    have p340 : 0 ≤ (x5_1 : Int) := zO
    have q340 : x5_1 < (l0.length : Int) := zO
    obtain ⟨ad340, e340, hx340_0, hx340_1⟩ := at_T36 HR0.out x5_1 p340 q340
    cases e340
    replace p340 := eq_true p340
    replace q340 := eq_true q340
    have p341 : 0 ≤ (x5_1 : Int) := zO
    have q341 : x5_1 < (l0.length : Int) := zO
    obtain ⟨ad341, e341, hx341_0, hx341_1⟩ := at_T36 HR0.out x5_1 p341 q341
    obtain rfl : ad340 = ad341 := (by injection e341)
    replace p341 := eq_true p341
    replace q341 := eq_true q341
    go_wp2
    go_ret
    exact zH49
   rw [if_pos c6] at H
   have c6b0 : (((rd_T36 l0 x5_1).f1) == (wrap64 (x1_1 + 1))) = true := beq_iff_eq.mpr c6
   have c6b1 : (((rd_T36 l0 x5_1).f1) != (wrap64 (x1_1 + 1))) = false := bne_eq_false_iff_eq.mpr c6
   clear c6
   have H' := za H
   clear H
   have p340 : 0 ≤ (x5_1 : Int) := zO
   have q340 : x5_1 < (l0.length : Int) := zO
   obtain ⟨ad340, e340, hx340_0, hx340_1⟩ := at_T36 HR0.out x5_1 p340 q340
   cases e340
   replace p340 := eq_true p340
   replace q340 := eq_true q340
   have p341 : 0 ≤ (x5_1 : Int) := zO
   have q341 : x5_1 < (l0.length : Int) := zO
   obtain ⟨ad341, e341, hx341_0, hx341_1⟩ := at_T36 HR0.out x5_1 p341 q341
   obtain rfl : ad340 = ad341 := (by injection e341)
   replace p341 := eq_true p341
   replace q341 := eq_true q341
   go_wp2
   go_roundg k1
   case measure => have := HK1.out; omega
   case rel => exact ⟨(wrap64 ((wrap64 (x1_1 + 1)) + 1)), (wrap64 (x5_1 + 1)), zG82, zG82, H', ⟨zH88⟩, zH77⟩
end Go.Proofs.Ytnkceaibkfbeaaa.E
