-- squeezed
-- made by pp.py (wip/tools) out of the translation; Lean checks it
import Derived.Test.YtdohpbhljifodaaC0
namespace Go.Proofs.Ytdohpbhljifodaa.C
open Go.RowKit Go.Proofs.YtdohpbhljifodaaW.PrintWords Go.Proofs.YtdohpbhljifodaaW.PrintLast Go.Proofs.YtdohpbhljifodaaW.PrintMore
attribute [local go_sem] max2_int min2_int max_two min_two max_three min_three max_four min_four   -- for this text's walks alone
set_option linter.unusedVariables false
set_option linter.unusedSimpArgs false


/-! ### laws_markCartHoldS: function 31 -/
def laws_markCartHoldS.l0 : Nat → List (S36) → Int → Int → Option (Int × (List (S36)))
 | 0, _, _, _ => none
 | k + 1, x0, x1, x5 => if x5 < (x0.length : Int) then (if 0 ≤ x5 then ((some (x0.set (x5 : Int).toNat (⟨x1, (rd_T36 x0 x5).f1, (rd_T36 x0 x5).f2⟩ : S36) : List (S36))).bind fun y244 => ((some (y244.set (x5 : Int).toNat (⟨(rd_T36 y244 x5).f0, wrap64 (x1 + 1), (rd_T36 y244 x5).f2⟩ : S36) : List (S36))).bind fun y245 => (laws_markCartHoldS.l0 k (y245.set (x5 : Int).toNat (⟨(rd_T36 y245 x5).f0, (rd_T36 y245 x5).f1, wrap64 ((wrap64 (x1 + 1)) + 1)⟩ : S36)) (wrap64 ((wrap64 ((wrap64 (x1 + 1)) + 1)) + 1)) (wrap64 (x5 + 1))))) else (none)) else (some (x1, x0))
def laws_markCartHoldS.f (k : Nat) (l0 : List (S36)) (a1 : Int) : Option (Int × (List (S36))) := laws_markCartHoldS.l0 k l0 a1 0
theorem laws_markCartHoldS.mono_l : ∀ k, (∀ y0 y1 y2, LeO (laws_markCartHoldS.l0 k y0 y1 y2) (laws_markCartHoldS.l0 (k + 1) y0 y1 y2))
 | 0 => fun _ _ _ r h => by simp [laws_markCartHoldS.l0] at h
 | k + 1 => by
  have ih0 := laws_markCartHoldS.mono_l k
  ·intro y0 y1 y2
   unfold laws_markCartHoldS.l0
   repeat' first
   | (with_reducible exact ih0 _ _ _)
   | (with_reducible exact LeO.refl _)
   | (with_reducible exact LeO.none _)
   | (with_reducible refine LeO.ite ?_ ?_)
   | (with_reducible refine LeO.bind ?_ (fun _ => ?_))
   | exact ih0 _ _ _
   | exact LeO.none _
   | refine LeO.ite ?_ ?_
   | refine LeO.bind ?_ (fun _ => ?_)
theorem laws_markCartHoldS.mono : ∀ a0 a1 k, LeO (laws_markCartHoldS.f k a0 a1) (laws_markCartHoldS.f (k + 1) a0 a1) := by
 intro a0 a1 k
 have ih0 := laws_markCartHoldS.mono_l k
 unfold laws_markCartHoldS.f
 repeat' first
   | (with_reducible exact ih0 _ _ _)
   | (with_reducible exact LeO.refl _)
   | (with_reducible exact LeO.none _)
   | (with_reducible refine LeO.ite ?_ ?_)
   | (with_reducible refine LeO.bind ?_ (fun _ => ?_))
   | exact ih0 _ _ _
   | exact LeO.none _
   | refine LeO.ite ?_ ?_
   | refine LeO.bind ?_ (fun _ => ?_)
set_option maxHeartbeats 64000000 in
set_option maxRecDepth 100000 in
theorem laws_markCartHoldS.calls (k : Nat) (P0_ : Nat → Prop) (u9000_ : Value) (l0 : List (S36)) (a1 : Int) (r1 : Int) (r2 : List (S36)) (w0 w : World) (hB : Below w0.heap.size w0 w) (ho0 : Kd.R k36 36 w w0.heap.size P0_ u9000_ l0) (h : laws_markCartHoldS.f k l0 a1 = some (r1, r2)) :
  Calls Try.prog 31 #[u9000_, .int .i64 a1] w fun e w' => e = .returned (.int .i64 r1) ∧ Kd.R k36 36 w' w0.heap.size (fun k_ => (P0_ k_ ∨ w.heap.size ≤ k_)) u9000_ r2 ∧ Below w0.heap.size w0 w' ∧ Kept w w' (fun k_ => P0_ k_) := by
 obtain ⟨HO0, HK, HW0, HB⟩ := zD4 (show Kd.R k36 36 w w0.heap.size (fun k_ => (P0_ k_ ∨ w.heap.size ≤ k_)) u9000_ l0 from zr ho0 (fun k_ hk => (.inl hk))) (Kept.refl w (fun k_ => P0_ k_)) hB.size hB
 clear hB
 have H : (laws_markCartHoldS.l0 k l0 a1 0) = some (r1, r2) := h
 clear h
 have H' := za H
 clear H
 go_enter Try.func31, Try.ntmps31
 go_wp2
 go_loopg [1, 5] k (fun kq v1 v5 w' => ∃ (x0_1 : List (S36)) (x1_1 : Int) (x5_1 : Int), v1 = .int .i64 x1_1 ∧ v5 = .int .i64 x5_1 ∧ Aside0 (laws_markCartHoldS.l0 kq x0_1 x1_1 x5_1 = some (r1, r2)) ∧ Aside0 (kq ≤ k) ∧ Aside0 (Kd.R k36 36 w' w0.heap.size (fun k_ => (P0_ k_ ∨ w.heap.size ≤ k_)) u9000_ x0_1) ∧ Aside0 (Kept w w' (fun k_ => P0_ k_)) ∧ Aside0 (Below w0.heap.size w0 w'))
 case atStart => exact ⟨(l0), (a1), (0), zG87, zG87, H', ⟨Nat.le_refl _⟩, ⟨zH85⟩, ⟨zH53⟩, ⟨zH65⟩⟩
 case round =>
  clear H'
  obtain ⟨x0_1, x1_1, x5_1, rfl, rfl, HA, HK1, HO_0, HK, HB⟩ := hrel
  cases gk with
  | zero => exact absurd HA.out (by simp [laws_markCartHoldS.l0])
  | succ k1 =>
   have H := HA.out
   clear HA
   simp only [laws_markCartHoldS.l0] at H
   by_cases c3 : x5_1 < (x0_1.length : Int)
   rotate_left
   ·rw [if_neg c3] at H
    have c3b0 := decide_eq_false c3
    clear c3
    simp only [Option.some.injEq, Prod.mk.injEq] at H
    obtain ⟨rfl, rfl⟩ := H
    obtain ⟨Ao15, co15, eo15⟩ := zaa HO_0.out
    subst eo15
    go_wp2
    go_ret
    exact zH7

   rw [if_pos c3] at H
   have c3b0 := decide_eq_true c3
   clear c3
   by_cases c4 : 0 ≤ x5_1
   rotate_left
   ·rw [if_neg c4] at H
    exact absurd H (by simp)
   rw [if_pos c4] at H
   have c4b0 := decide_eq_true c4
   clear c4
   obtain ⟨y244, hy244⟩ : ∃ y_ : List (S36), y_ = (x0_1.set (x5_1 : Int).toNat (⟨x1_1, (rd_T36 x0_1 x5_1).f1, (rd_T36 x0_1 x5_1).f2⟩ : S36)) := ⟨_, rfl⟩
   replace H : ((some (y244.set (x5_1 : Int).toNat (⟨(rd_T36 y244 x5_1).f0, wrap64 (x1_1 + 1), (rd_T36 y244 x5_1).f2⟩ : S36) : List (S36))).bind fun y245 => (laws_markCartHoldS.l0 k1 (y245.set (x5_1 : Int).toNat (⟨(rd_T36 y245 x5_1).f0, (rd_T36 y245 x5_1).f1, wrap64 ((wrap64 (x1_1 + 1)) + 1)⟩ : S36)) (wrap64 ((wrap64 ((wrap64 (x1_1 + 1)) + 1)) + 1)) (wrap64 (x5_1 + 1)))) = some (r1, r2) := by first | (rw [hy244]; with_reducible exact H) | (have H2_ := (Option.bind_some _ _).symm.trans H; rw [hy244]; with_reducible exact H2_) | (have H2_ := (Option.bind_some _ _).symm.trans H; with_reducible exact H2_) | with_reducible exact H | (rw [hy244]; exact H) | exact H
   have Ny244 := za hy244
   clear hy244
   obtain ⟨y245, hy245⟩ : ∃ y_ : List (S36), y_ = (y244.set (x5_1 : Int).toNat (⟨(rd_T36 y244 x5_1).f0, wrap64 (x1_1 + 1), (rd_T36 y244 x5_1).f2⟩ : S36)) := ⟨_, rfl⟩
   replace H : (laws_markCartHoldS.l0 k1 (y245.set (x5_1 : Int).toNat (⟨(rd_T36 y245 x5_1).f0, (rd_T36 y245 x5_1).f1, wrap64 ((wrap64 (x1_1 + 1)) + 1)⟩ : S36)) (wrap64 ((wrap64 ((wrap64 (x1_1 + 1)) + 1)) + 1)) (wrap64 (x5_1 + 1))) = some (r1, r2) := by first | (rw [hy245]; with_reducible exact H) | (have H2_ := (Option.bind_some _ _).symm.trans H; rw [hy245]; with_reducible exact H2_) | (have H2_ := (Option.bind_some _ _).symm.trans H; with_reducible exact H2_) | with_reducible exact H | (rw [hy245]; exact H) | exact H
   have Ny245 := za hy245
   clear hy245
   obtain ⟨y246, hy246⟩ : ∃ y_ : List (S36), y_ = (y245.set (x5_1 : Int).toNat (⟨(rd_T36 y245 x5_1).f0, (rd_T36 y245 x5_1).f1, wrap64 ((wrap64 (x1_1 + 1)) + 1)⟩ : S36)) := ⟨_, rfl⟩
   replace H : (laws_markCartHoldS.l0 k1 y246 (wrap64 ((wrap64 ((wrap64 (x1_1 + 1)) + 1)) + 1)) (wrap64 (x5_1 + 1))) = some (r1, r2) := by first | (rw [hy246]; with_reducible exact H) | (have H2_ := (Option.bind_some _ _).symm.trans H; rw [hy246]; with_reducible exact H2_) | (have H2_ := (Option.bind_some _ _).symm.trans H; with_reducible exact H2_) | with_reducible exact H | (rw [hy246]; exact H) | exact H
   have Ny246 := za hy246
   clear hy246
   have H' := za H
   clear H
   obtain ⟨Ao8, co8, eo8⟩ := zaa HO_0.out
   subst eo8
   have p5 : 0 ≤ (x5_1 : Int) := zO
   have q5 : (x5_1 : Int) < ((x0_1.length : Int) : Int) := zO
   obtain ⟨go5, co5, eo5, gb5, gl5, cl5, HG5⟩ := Kd.R_form HO_0.out (by omega)
   (first | cases eo5 | (injection eo5 with ea_ en_ ec_; (first | subst ea_ | (injection ea_ with ea_; subst ea_)); subst ec_; clear en_))
   obtain ⟨GB5, GG5, HMgo5⟩ := zD3 gb5 HG5 (show (P0_ go5 ∨ w.heap.size ≤ go5) from (HO_0.out.1 _ rfl))
   clear gb5 gl5 HG5
   obtain ⟨ce5, hcl5, hM5, hcc5, hfr5⟩ := zao HO_0.out z36 (x5_1 : Int) p5 q5
   obtain rfl := k36_openM hM5
   have hx5_0 : wr.cell? ⟨go5, (x5_1 : Int).toNat * 3, none⟩ = some (.int .i64 ((rd_T36 x0_1 x5_1).f0)) := hcc5 0 _ rfl
   have hx5_1 : wr.cell? ⟨go5, (x5_1 : Int).toNat * 3 + 1, none⟩ = some (.int .i64 ((rd_T36 x0_1 x5_1).f1)) := hcc5 1 _ rfl
   have hx5_2 : wr.cell? ⟨go5, (x5_1 : Int).toNat * 3 + 2, none⟩ = some (.int .i64 ((rd_T36 x0_1 x5_1).f2)) := hcc5 2 _ rfl
   have hf5_0 : wr.frozen? ⟨go5, (x5_1 : Int).toNat * 3, none⟩ = false := hfr5 0
   have hf5_1 : wr.frozen? ⟨go5, (x5_1 : Int).toNat * 3 + 1, none⟩ = false := hfr5 1
   have hf5_2 : wr.frozen? ⟨go5, (x5_1 : Int).toNat * 3 + 2, none⟩ = false := hfr5 2
   clear hcl5 hcc5 hfr5 hM5
   replace p5 := eq_true p5
   replace q5 := eq_true q5
   have HX9 := za (show Kd.R k36 36 wr w0.heap.size (fun k_ => (P0_ k_ ∨ w.heap.size ≤ k_)) (.slice (some ⟨go5, 0, none⟩) x0_1.length co8) x0_1 from zK177)
   obtain ⟨ce9, hcl9, hM9, hcc9, hfr9⟩ := zao HX9.out z36 (x5_1 : Int) zO (by have h_ : (x5_1 : Int) < ((x0_1.length : Int) : Int) := zO; first | exact h_ | (have e_ := (Kd.R_reads' HO_0.out).1; omega) | simpa using h_)
   obtain rfl := k36_openM hM9
   have HP9 := zay HX9.out (x5_1 : Int) zO (by have h_ : (x5_1 : Int) < ((x0_1.length : Int) : Int) := zO; first | exact h_ | (have e_ := (Kd.R_reads' HO_0.out).1; omega) | simpa using h_) (seg := [.int .i64 x1_1]) (j := 0) hcl9 hcc9 (show 1 ≤ 3 from by decide) (x' := (⟨x1_1, (rd_T36 x0_1 x5_1).f1, (rd_T36 x0_1 x5_1).f2⟩ : S36)) (k36_mkM _ _ _ (⟨x1_1, (rd_T36 x0_1 x5_1).f1, (rd_T36 x0_1 x5_1).f2⟩ : S36) ) (fun _ hk => hk)
   have hx9_0 := hcc9 0 _ rfl
   (try simp only [show (k36).sz = 3 from rfl, Nat.mul_one, Nat.add_zero] at hx9_0)
   have hf9_0 := hfr9 0
   (try simp only [show (k36).sz = 3 from rfl, Nat.mul_one, Nat.add_zero] at hf9_0)
   clear hcl9 hcc9 hfr9 hM9
   go_wp2_with (first | ((with_reducible refine gate_store (t := 3) (p := 16) rfl ?_); refine store_event (t := 3) (p := 16) (v := ?vo_w10) (w1 := (wr.setCell ⟨go5, (x5_1 : Int).toNat * 3, none⟩ (.int .i64 x1_1))) ?hg ?ho ?hn ?hr ?_; (case ho => rfl); (case hg => rfl); (case hn => rfl); (case hr => exact zH89); intro w10 hw; have hg : wr.grownBy w10 (some go5) := (by rw [hw]; exact HP9.2); have hp_ : Kd.R k36 36 w10 w0.heap.size (fun k_ => (P0_ k_ ∨ w.heap.size ≤ k_)) (.slice (some ⟨go5, 0, none⟩) x0_1.length co8) y244 := (by rw [hw, Ny244.out]; exact HP9.1); clear HP9; have n_ := zA_ (za (hp_)) (zA_ (za ((by rw [hw]; exact zh (HB.out) GB5.out : Below w0.heap.size w0 w10))) (za (zal (S := (fun k_ => P0_ k_)) hg zG69 (fun k_ e_ => (HO_0.out.1 k_ e_))))); clear HO_0 HB HK; obtain ⟨HO_0, HB, HK⟩ := n_; clear hg hw hp_; have p6 : 0 ≤ (x5_1 : Int) := zO; have q6 : (x5_1 : Int) < ((x0_1.length : Int) : Int) := zO; obtain ⟨ce6, hcl6, hM6, hcc6, hfr6⟩ := zao HO_0.out z36 (x5_1 : Int) p6 q6; obtain rfl := k36_openM hM6; have hx6_0 : w10.cell? ⟨go5, (x5_1 : Int).toNat * 3, none⟩ = some (.int .i64 ((rd_T36 y244 x5_1).f0)) := hcc6 0 _ rfl; have hx6_1 : w10.cell? ⟨go5, (x5_1 : Int).toNat * 3 + 1, none⟩ = some (.int .i64 ((rd_T36 y244 x5_1).f1)) := hcc6 1 _ rfl; have hx6_2 : w10.cell? ⟨go5, (x5_1 : Int).toNat * 3 + 2, none⟩ = some (.int .i64 ((rd_T36 y244 x5_1).f2)) := hcc6 2 _ rfl; have hf6_0 : w10.frozen? ⟨go5, (x5_1 : Int).toNat * 3, none⟩ = false := hfr6 0; have hf6_1 : w10.frozen? ⟨go5, (x5_1 : Int).toNat * 3 + 1, none⟩ = false := hfr6 1; have hf6_2 : w10.frozen? ⟨go5, (x5_1 : Int).toNat * 3 + 2, none⟩ = false := hfr6 2; clear hcl6 hcc6 hfr6 hM6; replace p6 := eq_true p6; replace q6 := eq_true q6; have HX11 := za (show Kd.R k36 36 w10 w0.heap.size (fun k_ => (P0_ k_ ∨ w.heap.size ≤ k_)) (.slice (some ⟨go5, 0, none⟩) x0_1.length co8) y244 from zK177); obtain ⟨ce11, hcl11, hM11, hcc11, hfr11⟩ := zao HX11.out z36 (x5_1 : Int) zO (by have h_ : (x5_1 : Int) < ((x0_1.length : Int) : Int) := zO; first | exact h_ | (have e_ := (Kd.R_reads' HO_0.out).1; omega) | simpa using h_); obtain rfl := k36_openM hM11; have HP11 := zay HX11.out (x5_1 : Int) zO (by have h_ : (x5_1 : Int) < ((x0_1.length : Int) : Int) := zO; first | exact h_ | (have e_ := (Kd.R_reads' HO_0.out).1; omega) | simpa using h_) (seg := [.int .i64 (wrap64 (x1_1 + 1))]) (j := 1) hcl11 hcc11 (show 2 ≤ 3 from by decide) (x' := (⟨(rd_T36 y244 x5_1).f0, wrap64 (x1_1 + 1), (rd_T36 y244 x5_1).f2⟩ : S36)) (k36_mkM _ _ _ (⟨(rd_T36 y244 x5_1).f0, wrap64 (x1_1 + 1), (rd_T36 y244 x5_1).f2⟩ : S36) ) (fun _ hk => hk); have hx11_1 := hcc11 1 _ rfl; (try simp only [show (k36).sz = 3 from rfl, Nat.mul_one, Nat.add_zero] at hx11_1); have hf11_1 := hfr11 1; (try simp only [show (k36).sz = 3 from rfl, Nat.mul_one, Nat.add_zero] at hf11_1); clear hcl11 hcc11 hfr11 hM11) | ((with_reducible refine gate_store (t := 3) (p := 23) rfl ?_); refine store_event (t := 3) (p := 23) (v := ?vo_w12) (w1 := (w10.setCell ⟨go5, (x5_1 : Int).toNat * 3 + 1, none⟩ (.int .i64 (wrap64 (x1_1 + 1))))) ?hg ?ho ?hn ?hr ?_; (case ho => rfl); (case hg => rfl); (case hn => rfl); (case hr => exact zH89); intro w12 hw; have hg : w10.grownBy w12 (some go5) := (by rw [hw]; exact HP11.2); have hp_ : Kd.R k36 36 w12 w0.heap.size (fun k_ => (P0_ k_ ∨ w.heap.size ≤ k_)) (.slice (some ⟨go5, 0, none⟩) x0_1.length co8) y245 := (by rw [hw, Ny245.out]; exact HP11.1); clear HP11; have n_ := zA_ (za (hp_)) (zA_ (za ((by rw [hw]; exact zh (HB.out) GB5.out : Below w0.heap.size w0 w12))) (za (zal (S := (fun k_ => P0_ k_)) hg zG69 (fun k_ e_ => (HO_0.out.1 k_ e_))))); clear HO_0 HB HK; obtain ⟨HO_0, HB, HK⟩ := n_; clear hg hw hp_; have p7 : 0 ≤ (x5_1 : Int) := zO; have q7 : (x5_1 : Int) < ((x0_1.length : Int) : Int) := zO; obtain ⟨ce7, hcl7, hM7, hcc7, hfr7⟩ := zao HO_0.out z36 (x5_1 : Int) p7 q7; obtain rfl := k36_openM hM7; have hx7_0 : w12.cell? ⟨go5, (x5_1 : Int).toNat * 3, none⟩ = some (.int .i64 ((rd_T36 y245 x5_1).f0)) := hcc7 0 _ rfl; have hx7_1 : w12.cell? ⟨go5, (x5_1 : Int).toNat * 3 + 1, none⟩ = some (.int .i64 ((rd_T36 y245 x5_1).f1)) := hcc7 1 _ rfl; have hx7_2 : w12.cell? ⟨go5, (x5_1 : Int).toNat * 3 + 2, none⟩ = some (.int .i64 ((rd_T36 y245 x5_1).f2)) := hcc7 2 _ rfl; have hf7_0 : w12.frozen? ⟨go5, (x5_1 : Int).toNat * 3, none⟩ = false := hfr7 0; have hf7_1 : w12.frozen? ⟨go5, (x5_1 : Int).toNat * 3 + 1, none⟩ = false := hfr7 1; have hf7_2 : w12.frozen? ⟨go5, (x5_1 : Int).toNat * 3 + 2, none⟩ = false := hfr7 2; clear hcl7 hcc7 hfr7 hM7; replace p7 := eq_true p7; replace q7 := eq_true q7; have HX13 := za (show Kd.R k36 36 w12 w0.heap.size (fun k_ => (P0_ k_ ∨ w.heap.size ≤ k_)) (.slice (some ⟨go5, 0, none⟩) x0_1.length co8) y245 from zK177); obtain ⟨ce13, hcl13, hM13, hcc13, hfr13⟩ := zao HX13.out z36 (x5_1 : Int) zO (by have h_ : (x5_1 : Int) < ((x0_1.length : Int) : Int) := zO; first | exact h_ | (have e_ := (Kd.R_reads' HO_0.out).1; omega) | simpa using h_); obtain rfl := k36_openM hM13; have HP13 := zay HX13.out (x5_1 : Int) zO (by have h_ : (x5_1 : Int) < ((x0_1.length : Int) : Int) := zO; first | exact h_ | (have e_ := (Kd.R_reads' HO_0.out).1; omega) | simpa using h_) (seg := [.int .i64 (wrap64 ((wrap64 (x1_1 + 1)) + 1))]) (j := 2) hcl13 hcc13 (show 3 ≤ 3 from by decide) (x' := (⟨(rd_T36 y245 x5_1).f0, (rd_T36 y245 x5_1).f1, wrap64 ((wrap64 (x1_1 + 1)) + 1)⟩ : S36)) (k36_mkM _ _ _ (⟨(rd_T36 y245 x5_1).f0, (rd_T36 y245 x5_1).f1, wrap64 ((wrap64 (x1_1 + 1)) + 1)⟩ : S36) ) (fun _ hk => hk); have hx13_2 := hcc13 2 _ rfl; (try simp only [show (k36).sz = 3 from rfl, Nat.mul_one, Nat.add_zero] at hx13_2); have hf13_2 := hfr13 2; (try simp only [show (k36).sz = 3 from rfl, Nat.mul_one, Nat.add_zero] at hf13_2); clear hcl13 hcc13 hfr13 hM13) | ((with_reducible refine gate_store (t := 3) (p := 30) rfl ?_); refine store_event (t := 3) (p := 30) (v := ?vo_w14) (w1 := (w12.setCell ⟨go5, (x5_1 : Int).toNat * 3 + 2, none⟩ (.int .i64 (wrap64 ((wrap64 (x1_1 + 1)) + 1))))) ?hg ?ho ?hn ?hr ?_; (case ho => rfl); (case hg => rfl); (case hn => rfl); (case hr => exact zH89); intro w14 hw; have hg : w12.grownBy w14 (some go5) := (by rw [hw]; exact HP13.2); have hp_ : Kd.R k36 36 w14 w0.heap.size (fun k_ => (P0_ k_ ∨ w.heap.size ≤ k_)) (.slice (some ⟨go5, 0, none⟩) x0_1.length co8) y246 := (by rw [hw, Ny246.out]; exact HP13.1); clear HP13; have n_ := zA_ (za (hp_)) (zA_ (za ((by rw [hw]; exact zh (HB.out) GB5.out : Below w0.heap.size w0 w14))) (za (zal (S := (fun k_ => P0_ k_)) hg zG69 (fun k_ e_ => (HO_0.out.1 k_ e_))))); clear HO_0 HB HK; obtain ⟨HO_0, HB, HK⟩ := n_; clear hg hw hp_))
   go_roundg k1
   case measure => have := HK1.out; omega
   case rel => exact ⟨(y246), (wrap64 ((wrap64 ((wrap64 (x1_1 + 1)) + 1)) + 1)), (wrap64 (x5_1 + 1)), zG87, zG87, H', ⟨zH94⟩, ⟨zH84⟩, ⟨zH53⟩, ⟨zH65⟩⟩
/-! ### laws_markCarts: function 16 -/
def laws_markCarts.f (k : Nat) (a0_0 : Int) (a0_1 : Int) (a0_2 : Int) (l0_3 : List (S36)) (a1 : Int) : Option (Int × (List (S36))) := (laws_markCartHoldS.f k l0_3 a1).bind fun bt248 => (some (bt248.1, bt248.2))
theorem laws_markCarts.mono : ∀ a0 a1 a2 a3 a4 k, LeO (laws_markCarts.f k a0 a1 a2 a3 a4) (laws_markCarts.f (k + 1) a0 a1 a2 a3 a4) := by
 intro a0 a1 a2 a3 a4 k
 unfold laws_markCarts.f
 repeat' first
   | (with_reducible exact laws_markCartHoldS.mono _ _ _)
   | (with_reducible exact LeO.refl _)
   | (with_reducible exact LeO.none _)
   | (with_reducible refine LeO.ite ?_ ?_)
   | (with_reducible refine LeO.bind ?_ (fun _ => ?_))
   | exact laws_markCartHoldS.mono _ _ _
   | exact LeO.none _
   | refine LeO.ite ?_ ?_
   | refine LeO.bind ?_ (fun _ => ?_)
set_option maxHeartbeats 64000000 in
set_option maxRecDepth 100000 in
theorem laws_markCarts.calls (k : Nat) (a0_0 : Int) (a0_1 : Int) (a0_2 : Int) (P0_3_ : Nat → Prop) (u9000_ : Value) (l0_3 : List (S36)) (a1 : Int) (r1 : Int) (r2 : List (S36)) (w0 w : World) (hB : Below w0.heap.size w0 w) (ho0_3 : Kd.R k36 36 w w0.heap.size P0_3_ u9000_ l0_3) (h : laws_markCarts.f k a0_0 a0_1 a0_2 l0_3 a1 = some (r1, r2)) :
  Calls Try.prog 16 #[.agg #[.int .i64 a0_0, .int .i64 a0_1, .int .i64 a0_2, u9000_], .int .i64 a1] w fun e w' => e = .returned (.int .i64 r1) ∧ Kd.R k36 36 w' w0.heap.size (fun k_ => (P0_3_ k_ ∨ w.heap.size ≤ k_)) u9000_ r2 ∧ Below w0.heap.size w0 w' ∧ Kept w w' (fun k_ => P0_3_ k_) := by
 have hu30 := Try.underlying30
 obtain ⟨HO0_3, HK, HW0, HB⟩ := zD4 (show Kd.R k36 36 w w0.heap.size (fun k_ => (P0_3_ k_ ∨ w.heap.size ≤ k_)) u9000_ l0_3 from zr ho0_3 (fun k_ hk => (.inl hk))) (Kept.refl w (fun k_ => P0_3_ k_)) hB.size hB
 clear hB
 have H : ((laws_markCartHoldS.f k l0_3 a1).bind fun bt248 => (some (bt248.1, bt248.2))) = some (r1, r2) := h
 clear h
 replace H := Option.bind_eq_some_iff.mp H
 obtain ⟨⟨t248, t249⟩, A30, H⟩ := H
 replace H : (some (t248, t249)) = some (r1, r2) := H
 have A3 := za A30
 clear A30
 simp only [Option.some.injEq, Prod.mk.injEq] at H
 obtain ⟨rfl, rfl⟩ := H
 obtain ⟨Ao4, co4, eo4⟩ := zaa HO0_3.out
 subst eo4
 go_enter Try.func16, Try.ntmps16
 go_wp2_with (first | ((with_reducible refine gate_dst (N := 2) rfl ?_); refine box_event ?hg (N := 2) ?hd (cs := #[.int .i64 a0_0, .int .i64 a0_1, .int .i64 a0_2, .slice Ao4 l0_3.length co4]) (t := 30) ?hr ?_; (case hd => rfl); (case hg => rfl); (case hr => exact zH89); intro gb247 hg w5 hbox hb; have n_ := zA_ (za (zp zK173 hb)) (zA_ (za (Kept.below (S := (fun k_ => P0_3_ k_)) zG69 hb)) (zA_ (za (zt zG70 hb)) (zA_ (za (hbox)) (zA_ (zN1 w.heap.size hg zK130) (zN1 w0.heap.size hg (zs zG70)))))); clear HO0_3 HK HB; obtain ⟨HO0_3, HK, HB, BK247, GW247, GE247⟩ := n_; clear hb hbox hg; obtain ⟨hcz6_0, hcz6_1, hcz6_2, hcz6_3, hfz6_0, hfz6_1, hfz6_2, hfz6_3⟩ := zB4 BK247.out) | ((with_reducible refine gate_callee (f := 31) rfl ?_); refine goesL_ (some 8) rfl rfl Try.func31 zG88 rfl #[.slice Ao4 l0_3.length co4, .int .i64 a1] rfl zG63 ?_; (with_reducible refine (laws_markCartHoldS.calls k (fun k_ => some k_ = (.slice Ao4 l0_3.length co4 : Value).ownBlock) (.slice Ao4 l0_3.length co4) l0_3 a1 t248 t249 w0 _ ?side1 ?side2 A3.out).mono ?_); (case side1 => repeat (first | (with_reducible first | exact HB.out | apply zk | apply zf | apply zi | refine zh ?_ GE247.out) | exact HB.out)); (case side2 => exact zar rfl HO0_3.out); rintro e w7 ⟨rfl, hy0, hb, hkp⟩; refine ⟨_, rfl, ?_⟩; have n_ := zA_ (za (zas rfl hy0 (fun k_ e_ => HO0_3.out.1 k_ e_))) (zA_ (za (zad (by (with_reducible repeat (first | refine zd ?_ _ | refine zg ?_ | refine zb ?_ _)); exact BK247.out) hkp (fun hs_ => (fun e_ => (zac HO0_3.out BK247.out zG89) e_) hs_))) (zA_ (za (Kept.then_ (S := (fun k_ => P0_3_ k_)) (by repeat (first | (with_reducible first | exact HK.out | apply Kept.alloc | apply Kept.drewN | apply Kept.drew | refine Kept.setCell ?_ (.inr GW247.out) _) | exact HK.out)) hkp (fun k_ hs_ => (fun e_ => (HO0_3.out.1 k_ e_.symm)) hs_))) (za (hb)))); clear HO0_3 BK247 HK HB; obtain ⟨HO0_3, BK247, HK, HB⟩ := n_; (try clear hb); (try clear hkp); (try clear hy0)))
 go_ret
 exact ⟨zH78, zH82, by repeat (first | (with_reducible first | exact HB.out | apply zk | apply zf | apply zi | refine zh ?_ GE247.out) | exact HB.out), by repeat (first | (with_reducible first | exact HK.out | apply Kept.alloc | apply Kept.drewN | apply Kept.drew | refine Kept.setCell ?_ (.inr GW247.out) _) | exact HK.out)⟩

/-! ### laws_heldCartObsS: function 17 -/
def laws_heldCartObsS.l0 : Nat → List (S34) → Int → Int → Option (Int)
 | 0, _, _, _ => none
 | k + 1, x0, x1, x5 => if x5 < (x0.length : Int) then (if 0 ≤ x5 then (if ((rd_T34 x0 x5).f0) = x1 then (if ((rd_T34 x0 x5).f1) = (wrap64 (x1 + 1)) then (laws_heldCartObsS.l0 k x0 (wrap64 ((wrap64 (x1 + 1)) + 1)) (wrap64 (x5 + 1))) else (some (-1))) else (some (-1))) else (none)) else (some x1)
def laws_heldCartObsS.f (k : Nat) (l0 : List (S34)) (a1 : Int) : Option (Int) := laws_heldCartObsS.l0 k l0 a1 0
theorem laws_heldCartObsS.mono_l : ∀ k, (∀ y0 y1 y2, LeO (laws_heldCartObsS.l0 k y0 y1 y2) (laws_heldCartObsS.l0 (k + 1) y0 y1 y2))
 | 0 => fun _ _ _ r h => by simp [laws_heldCartObsS.l0] at h
 | k + 1 => by
  have ih0 := laws_heldCartObsS.mono_l k
  ·intro y0 y1 y2
   unfold laws_heldCartObsS.l0
   repeat' first
   | (with_reducible exact ih0 _ _ _)
   | (with_reducible exact LeO.refl _)
   | (with_reducible exact LeO.none _)
   | (with_reducible refine LeO.ite ?_ ?_)
   | (with_reducible refine LeO.bind ?_ (fun _ => ?_))
   | exact ih0 _ _ _
   | exact LeO.none _
   | refine LeO.ite ?_ ?_
   | refine LeO.bind ?_ (fun _ => ?_)
theorem laws_heldCartObsS.mono : ∀ a0 a1 k, LeO (laws_heldCartObsS.f k a0 a1) (laws_heldCartObsS.f (k + 1) a0 a1) := by
 intro a0 a1 k
 have ih0 := laws_heldCartObsS.mono_l k
 unfold laws_heldCartObsS.f
 repeat' first
   | (with_reducible exact ih0 _ _ _)
   | (with_reducible exact LeO.refl _)
   | (with_reducible exact LeO.none _)
   | (with_reducible refine LeO.ite ?_ ?_)
   | (with_reducible refine LeO.bind ?_ (fun _ => ?_))
   | exact ih0 _ _ _
   | exact LeO.none _
   | refine LeO.ite ?_ ?_
   | refine LeO.bind ?_ (fun _ => ?_)
set_option maxHeartbeats 64000000 in
set_option maxRecDepth 100000 in
theorem laws_heldCartObsS.calls (k : Nat) (A0 : Option Addr) (c0 : Nat) (l0 : List (S34)) (a1 : Int) (r : Int) (w : World) (hr0 : Kd.C k34 w A0 l0.length l0) (hc0 : l0.length ≤ c0) (h : laws_heldCartObsS.f k l0 a1 = some r) :
  Calls Try.prog 17 #[.slice A0 l0.length c0, .int .i64 a1] w fun e w' => e = .returned (.int .i64 r) ∧ Drawn0 w w' := by
 obtain ⟨HR0, HC0⟩ := zD2 hr0 hc0
 clear hr0 hc0
 have H : (laws_heldCartObsS.l0 k l0 a1 0) = some r := h
 clear h
 have H' := za H
 clear H
 go_enter Try.func17, Try.ntmps17
 go_wp2
 go_loopg [1, 5] k (fun kq v1 v5 w' => ∃ (x1_1 : Int) (x5_1 : Int), v1 = .int .i64 x1_1 ∧ v5 = .int .i64 x5_1 ∧ Aside0 (laws_heldCartObsS.l0 kq l0 x1_1 x5_1 = some r) ∧ Aside0 (kq ≤ k) ∧ Drawn0 w w')
 case atStart => exact ⟨(a1), (0), zG87, zG87, H', ⟨Nat.le_refl _⟩, zH87⟩
 case round =>
  clear H'
  obtain ⟨x1_1, x5_1, rfl, rfl, HA, HK1, ⟨m1, rfl⟩⟩ := hrel
  cases gk with
  | zero => exact absurd HA.out (by simp [laws_heldCartObsS.l0])
  | succ k1 =>
   have H := HA.out
   clear HA
   simp only [laws_heldCartObsS.l0] at H
   by_cases c3 : x5_1 < (l0.length : Int)
   rotate_left
   ·rw [if_neg c3] at H
    have c3b0 := decide_eq_false c3
    clear c3
    obtain rfl := Option.some.inj H
    go_wp2
    go_ret
    exact zH55

   rw [if_pos c3] at H
   have c3b0 := decide_eq_true c3
   clear c3
   by_cases c4 : 0 ≤ x5_1
   rotate_left
   ·rw [if_neg c4] at H
    exact absurd H (by simp)
   rw [if_pos c4] at H
   have c4b0 := decide_eq_true c4
   clear c4
   by_cases c5 : ((rd_T34 l0 x5_1).f0) = x1_1
   rotate_left
   ·rw [if_neg c5] at H
    have c5b0 : (((rd_T34 l0 x5_1).f0) == x1_1) = false := beq_eq_false_iff_ne.mpr c5
    have c5b1 : (((rd_T34 l0 x5_1).f0) != x1_1) = true := bne_iff_ne.mpr c5
    obtain rfl := Option.some.inj H
    have p250 : 0 ≤ (x5_1 : Int) := zO
    have q250 : x5_1 < (l0.length : Int) := zO
    obtain ⟨ad250, e250, hx250_0, hx250_1⟩ := at_T34 HR0.out x5_1 p250 q250
    cases e250
    replace p250 := eq_true p250
    replace q250 := eq_true q250
    go_wp2
    go_ret
    exact zH55
   rw [if_pos c5] at H
   have c5b0 : (((rd_T34 l0 x5_1).f0) == x1_1) = true := beq_iff_eq.mpr c5
   have c5b1 : (((rd_T34 l0 x5_1).f0) != x1_1) = false := bne_eq_false_iff_eq.mpr c5
   clear c5
   by_cases c6 : ((rd_T34 l0 x5_1).f1) = (wrap64 (x1_1 + 1))
   rotate_left
   ·rw [if_neg c6] at H
    have c6b0 : (((rd_T34 l0 x5_1).f1) == (wrap64 (x1_1 + 1))) = false := beq_eq_false_iff_ne.mpr c6
    have c6b1 : (((rd_T34 l0 x5_1).f1) != (wrap64 (x1_1 + 1))) = true := bne_iff_ne.mpr c6
    obtain rfl := Option.some.inj H
    have p250 : 0 ≤ (x5_1 : Int) := zO
    have q250 : x5_1 < (l0.length : Int) := zO
    obtain ⟨ad250, e250, hx250_0, hx250_1⟩ := at_T34 HR0.out x5_1 p250 q250
    cases e250
    replace p250 := eq_true p250
    replace q250 := eq_true q250
    have p251 : 0 ≤ (x5_1 : Int) := zO
    have q251 : x5_1 < (l0.length : Int) := zO
    obtain ⟨ad251, e251, hx251_0, hx251_1⟩ := at_T34 HR0.out x5_1 p251 q251
    obtain rfl : ad250 = ad251 := (by injection e251)
    replace p251 := eq_true p251
    replace q251 := eq_true q251
    go_wp2
    go_ret
    exact zH55
   rw [if_pos c6] at H
   have c6b0 : (((rd_T34 l0 x5_1).f1) == (wrap64 (x1_1 + 1))) = true := beq_iff_eq.mpr c6
   have c6b1 : (((rd_T34 l0 x5_1).f1) != (wrap64 (x1_1 + 1))) = false := bne_eq_false_iff_eq.mpr c6
   clear c6
   have H' := za H
   clear H
   have p250 : 0 ≤ (x5_1 : Int) := zO
   have q250 : x5_1 < (l0.length : Int) := zO
   obtain ⟨ad250, e250, hx250_0, hx250_1⟩ := at_T34 HR0.out x5_1 p250 q250
   cases e250
   replace p250 := eq_true p250
   replace q250 := eq_true q250
   have p251 : 0 ≤ (x5_1 : Int) := zO
   have q251 : x5_1 < (l0.length : Int) := zO
   obtain ⟨ad251, e251, hx251_0, hx251_1⟩ := at_T34 HR0.out x5_1 p251 q251
   obtain rfl : ad250 = ad251 := (by injection e251)
   replace p251 := eq_true p251
   replace q251 := eq_true q251
   go_wp2
   go_roundg k1
   case measure => have := HK1.out; omega
   case rel => exact ⟨(wrap64 ((wrap64 (x1_1 + 1)) + 1)), (wrap64 (x5_1 + 1)), zG87, zG87, H', ⟨zH94⟩, zH87⟩
/-! ### laws_heldCartHoldS: function 32 -/
def laws_heldCartHoldS.l0 : Nat → List (S36) → Int → Int → Option (Int)
 | 0, _, _, _ => none
 | k + 1, x0, x1, x5 => if x5 < (x0.length : Int) then (if 0 ≤ x5 then (if ((rd_T36 x0 x5).f0) = x1 then (if ((rd_T36 x0 x5).f1) = (wrap64 (x1 + 1)) then (if ((rd_T36 x0 x5).f2) = (wrap64 ((wrap64 (x1 + 1)) + 1)) then (laws_heldCartHoldS.l0 k x0 (wrap64 ((wrap64 ((wrap64 (x1 + 1)) + 1)) + 1)) (wrap64 (x5 + 1))) else (some (-1))) else (some (-1))) else (some (-1))) else (none)) else (some x1)
def laws_heldCartHoldS.f (k : Nat) (l0 : List (S36)) (a1 : Int) : Option (Int) := laws_heldCartHoldS.l0 k l0 a1 0
theorem laws_heldCartHoldS.mono_l : ∀ k, (∀ y0 y1 y2, LeO (laws_heldCartHoldS.l0 k y0 y1 y2) (laws_heldCartHoldS.l0 (k + 1) y0 y1 y2))
 | 0 => fun _ _ _ r h => by simp [laws_heldCartHoldS.l0] at h
 | k + 1 => by
  have ih0 := laws_heldCartHoldS.mono_l k
  ·intro y0 y1 y2
   unfold laws_heldCartHoldS.l0
   repeat' first
   | (with_reducible exact ih0 _ _ _)
   | (with_reducible exact LeO.refl _)
   | (with_reducible exact LeO.none _)
   | (with_reducible refine LeO.ite ?_ ?_)
   | (with_reducible refine LeO.bind ?_ (fun _ => ?_))
   | exact ih0 _ _ _
   | exact LeO.none _
   | refine LeO.ite ?_ ?_
   | refine LeO.bind ?_ (fun _ => ?_)
theorem laws_heldCartHoldS.mono : ∀ a0 a1 k, LeO (laws_heldCartHoldS.f k a0 a1) (laws_heldCartHoldS.f (k + 1) a0 a1) := by
 intro a0 a1 k
 have ih0 := laws_heldCartHoldS.mono_l k
 unfold laws_heldCartHoldS.f
 repeat' first
   | (with_reducible exact ih0 _ _ _)
   | (with_reducible exact LeO.refl _)
   | (with_reducible exact LeO.none _)
   | (with_reducible refine LeO.ite ?_ ?_)
   | (with_reducible refine LeO.bind ?_ (fun _ => ?_))
   | exact ih0 _ _ _
   | exact LeO.none _
   | refine LeO.ite ?_ ?_
   | refine LeO.bind ?_ (fun _ => ?_)
set_option maxHeartbeats 64000000 in
set_option maxRecDepth 100000 in
theorem laws_heldCartHoldS.calls (k : Nat) (A0 : Option Addr) (c0 : Nat) (l0 : List (S36)) (a1 : Int) (r : Int) (w : World) (hr0 : Kd.C k36 w A0 l0.length l0) (hc0 : l0.length ≤ c0) (h : laws_heldCartHoldS.f k l0 a1 = some r) :
  Calls Try.prog 32 #[.slice A0 l0.length c0, .int .i64 a1] w fun e w' => e = .returned (.int .i64 r) ∧ Drawn0 w w' := by
 obtain ⟨HR0, HC0⟩ := zD2 hr0 hc0
 clear hr0 hc0
 have H : (laws_heldCartHoldS.l0 k l0 a1 0) = some r := h
 clear h
 have H' := za H
 clear H
 go_enter Try.func32, Try.ntmps32
 go_wp2
 go_loopg [1, 5] k (fun kq v1 v5 w' => ∃ (x1_1 : Int) (x5_1 : Int), v1 = .int .i64 x1_1 ∧ v5 = .int .i64 x5_1 ∧ Aside0 (laws_heldCartHoldS.l0 kq l0 x1_1 x5_1 = some r) ∧ Aside0 (kq ≤ k) ∧ Drawn0 w w')
 case atStart => exact ⟨(a1), (0), zG87, zG87, H', ⟨Nat.le_refl _⟩, zH87⟩
 case round =>
  clear H'
  obtain ⟨x1_1, x5_1, rfl, rfl, HA, HK1, ⟨m1, rfl⟩⟩ := hrel
  cases gk with
  | zero => exact absurd HA.out (by simp [laws_heldCartHoldS.l0])
  | succ k1 =>
   have H := HA.out
   clear HA
   simp only [laws_heldCartHoldS.l0] at H
   by_cases c3 : x5_1 < (l0.length : Int)
   rotate_left
   ·rw [if_neg c3] at H
    have c3b0 := decide_eq_false c3
    clear c3
    obtain rfl := Option.some.inj H
    go_wp2
    go_ret
    exact zH55

   rw [if_pos c3] at H
   have c3b0 := decide_eq_true c3
   clear c3
   by_cases c4 : 0 ≤ x5_1
   rotate_left
   ·rw [if_neg c4] at H
    exact absurd H (by simp)
   rw [if_pos c4] at H
   have c4b0 := decide_eq_true c4
   clear c4
   by_cases c5 : ((rd_T36 l0 x5_1).f0) = x1_1
   rotate_left
   ·rw [if_neg c5] at H
    have c5b0 : (((rd_T36 l0 x5_1).f0) == x1_1) = false := beq_eq_false_iff_ne.mpr c5
    have c5b1 : (((rd_T36 l0 x5_1).f0) != x1_1) = true := bne_iff_ne.mpr c5
    obtain rfl := Option.some.inj H
    have p252 : 0 ≤ (x5_1 : Int) := zO
    have q252 : x5_1 < (l0.length : Int) := zO
    obtain ⟨ad252, e252, hx252_0, hx252_1, hx252_2⟩ := at_T36 HR0.out x5_1 p252 q252
    cases e252
    replace p252 := eq_true p252
    replace q252 := eq_true q252
    go_wp2
    go_ret
    exact zH55
   rw [if_pos c5] at H
   have c5b0 : (((rd_T36 l0 x5_1).f0) == x1_1) = true := beq_iff_eq.mpr c5
   have c5b1 : (((rd_T36 l0 x5_1).f0) != x1_1) = false := bne_eq_false_iff_eq.mpr c5
   clear c5
   by_cases c6 : ((rd_T36 l0 x5_1).f1) = (wrap64 (x1_1 + 1))
   rotate_left
   ·rw [if_neg c6] at H
    have c6b0 : (((rd_T36 l0 x5_1).f1) == (wrap64 (x1_1 + 1))) = false := beq_eq_false_iff_ne.mpr c6
    have c6b1 : (((rd_T36 l0 x5_1).f1) != (wrap64 (x1_1 + 1))) = true := bne_iff_ne.mpr c6
    obtain rfl := Option.some.inj H
    have p252 : 0 ≤ (x5_1 : Int) := zO
    have q252 : x5_1 < (l0.length : Int) := zO
    obtain ⟨ad252, e252, hx252_0, hx252_1, hx252_2⟩ := at_T36 HR0.out x5_1 p252 q252
    cases e252
    replace p252 := eq_true p252
    replace q252 := eq_true q252
    have p253 : 0 ≤ (x5_1 : Int) := zO
    have q253 : x5_1 < (l0.length : Int) := zO
    obtain ⟨ad253, e253, hx253_0, hx253_1, hx253_2⟩ := at_T36 HR0.out x5_1 p253 q253
    obtain rfl : ad252 = ad253 := (by injection e253)
    replace p253 := eq_true p253
    replace q253 := eq_true q253
    go_wp2
    go_ret
    exact zH55
   rw [if_pos c6] at H
   have c6b0 : (((rd_T36 l0 x5_1).f1) == (wrap64 (x1_1 + 1))) = true := beq_iff_eq.mpr c6
   have c6b1 : (((rd_T36 l0 x5_1).f1) != (wrap64 (x1_1 + 1))) = false := bne_eq_false_iff_eq.mpr c6
   clear c6
   by_cases c7 : ((rd_T36 l0 x5_1).f2) = (wrap64 ((wrap64 (x1_1 + 1)) + 1))
   rotate_left
   ·rw [if_neg c7] at H
    have c7b0 : (((rd_T36 l0 x5_1).f2) == (wrap64 ((wrap64 (x1_1 + 1)) + 1))) = false := beq_eq_false_iff_ne.mpr c7
    have c7b1 : (((rd_T36 l0 x5_1).f2) != (wrap64 ((wrap64 (x1_1 + 1)) + 1))) = true := bne_iff_ne.mpr c7
    obtain rfl := Option.some.inj H
    have p252 : 0 ≤ (x5_1 : Int) := zO
    have q252 : x5_1 < (l0.length : Int) := zO
    obtain ⟨ad252, e252, hx252_0, hx252_1, hx252_2⟩ := at_T36 HR0.out x5_1 p252 q252
    cases e252
    replace p252 := eq_true p252
    replace q252 := eq_true q252
    have p253 : 0 ≤ (x5_1 : Int) := zO
    have q253 : x5_1 < (l0.length : Int) := zO
    obtain ⟨ad253, e253, hx253_0, hx253_1, hx253_2⟩ := at_T36 HR0.out x5_1 p253 q253
    obtain rfl : ad252 = ad253 := (by injection e253)
    replace p253 := eq_true p253
    replace q253 := eq_true q253
    have p254 : 0 ≤ (x5_1 : Int) := zO
    have q254 : x5_1 < (l0.length : Int) := zO
    obtain ⟨ad254, e254, hx254_0, hx254_1, hx254_2⟩ := at_T36 HR0.out x5_1 p254 q254
    obtain rfl : ad252 = ad254 := (by injection e254)
    replace p254 := eq_true p254
    replace q254 := eq_true q254
    go_wp2
    go_ret
    exact zH55
   rw [if_pos c7] at H
   have c7b0 : (((rd_T36 l0 x5_1).f2) == (wrap64 ((wrap64 (x1_1 + 1)) + 1))) = true := beq_iff_eq.mpr c7
   have c7b1 : (((rd_T36 l0 x5_1).f2) != (wrap64 ((wrap64 (x1_1 + 1)) + 1))) = false := bne_eq_false_iff_eq.mpr c7
   clear c7
   have H' := za H
   clear H
   have p252 : 0 ≤ (x5_1 : Int) := zO
   have q252 : x5_1 < (l0.length : Int) := zO
   obtain ⟨ad252, e252, hx252_0, hx252_1, hx252_2⟩ := at_T36 HR0.out x5_1 p252 q252
   cases e252
   replace p252 := eq_true p252
   replace q252 := eq_true q252
   have p253 : 0 ≤ (x5_1 : Int) := zO
   have q253 : x5_1 < (l0.length : Int) := zO
   obtain ⟨ad253, e253, hx253_0, hx253_1, hx253_2⟩ := at_T36 HR0.out x5_1 p253 q253
   obtain rfl : ad252 = ad253 := (by injection e253)
   replace p253 := eq_true p253
   replace q253 := eq_true q253
   have p254 : 0 ≤ (x5_1 : Int) := zO
   have q254 : x5_1 < (l0.length : Int) := zO
   obtain ⟨ad254, e254, hx254_0, hx254_1, hx254_2⟩ := at_T36 HR0.out x5_1 p254 q254
   obtain rfl : ad252 = ad254 := (by injection e254)
   replace p254 := eq_true p254
   replace q254 := eq_true q254
   go_wp2
   go_roundg k1
   case measure => have := HK1.out; omega
   case rel => exact ⟨(wrap64 ((wrap64 ((wrap64 (x1_1 + 1)) + 1)) + 1)), (wrap64 (x5_1 + 1)), zG87, zG87, H', ⟨zH94⟩, zH87⟩
/-! ### laws_heldCarts: function 18 -/
def laws_heldCarts.f (k : Nat) (a0_0 : Int) (a0_1 : Int) (a0_2 : Int) (l0_3 : List (S36)) (a1 : Int) : Option (Int) := (laws_heldCartHoldS.f k l0_3 a1).bind fun t256 => (if t256 < 0 then (some (-1)) else (some t256))
theorem laws_heldCarts.mono : ∀ a0 a1 a2 a3 a4 k, LeO (laws_heldCarts.f k a0 a1 a2 a3 a4) (laws_heldCarts.f (k + 1) a0 a1 a2 a3 a4) := by
 intro a0 a1 a2 a3 a4 k
 unfold laws_heldCarts.f
 repeat' first
   | (with_reducible exact laws_heldCartHoldS.mono _ _ _)
   | (with_reducible exact LeO.refl _)
   | (with_reducible exact LeO.none _)
   | (with_reducible refine LeO.ite ?_ ?_)
   | (with_reducible refine LeO.bind ?_ (fun _ => ?_))
   | exact laws_heldCartHoldS.mono _ _ _
   | exact LeO.none _
   | refine LeO.ite ?_ ?_
   | refine LeO.bind ?_ (fun _ => ?_)
set_option maxHeartbeats 64000000 in
set_option maxRecDepth 100000 in
theorem laws_heldCarts.calls (k : Nat) (a0_0 : Int) (a0_1 : Int) (a0_2 : Int) (A0_3 : Option Addr) (c0_3 : Nat) (l0_3 : List (S36)) (a1 : Int) (r : Int) (w : World) (hr0_3 : Kd.C k36 w A0_3 l0_3.length l0_3) (hc0_3 : l0_3.length ≤ c0_3) (h : laws_heldCarts.f k a0_0 a0_1 a0_2 l0_3 a1 = some r) :
  Calls Try.prog 18 #[.agg #[.int .i64 a0_0, .int .i64 a0_1, .int .i64 a0_2, .slice A0_3 l0_3.length c0_3], .int .i64 a1] w fun e w' => e = .returned (.int .i64 r) ∧ Below w.heap.size w w' := by
 have hu30 := Try.underlying30
 obtain ⟨HR0_3, HC0_3, HB⟩ := zD3 hr0_3 hc0_3 (Below.refl w.heap.size w)
 clear hr0_3 hc0_3
 have H : ((laws_heldCartHoldS.f k l0_3 a1).bind fun t256 => (if t256 < 0 then (some (-1)) else (some t256))) = some r := h
 clear h
 replace H := Option.bind_eq_some_iff.mp H
 obtain ⟨t256, A30, H⟩ := H
 replace H : (if t256 < 0 then (some (-1)) else (some t256)) = some r := H
 have A3 := za A30
 clear A30
 by_cases c4 : t256 < 0
 ·rw [if_pos c4] at H
  have c4b0 := decide_eq_true c4
  clear c4
  obtain rfl := Option.some.inj H
  go_enter Try.func18, Try.ntmps18
  go_wp2_with (first | ((with_reducible refine gate_dst (N := 2) rfl ?_); refine box_event ?hg (N := 2) ?hd (cs := #[.int .i64 a0_0, .int .i64 a0_1, .int .i64 a0_2, .slice A0_3 l0_3.length c0_3]) (t := 30) ?hr ?_; (case hd => rfl); (case hg => rfl); (case hr => exact zH89); intro gb255 hg w5 hbox hb; have n_ := zA_ (za (zt zG70 hb)) (zA_ (za (hbox)) (zA_ (zN1 w.heap.size hg (zs zG70)) (zN1 w.heap.size hg (zs zG70)))); clear HB; obtain ⟨HB, BK255, GW255, GE255⟩ := n_; clear hb hbox hg; obtain ⟨hcz6_0, hcz6_1, hcz6_2, hcz6_3, hfz6_0, hfz6_1, hfz6_2, hfz6_3⟩ := zB4 BK255.out) | ((with_reducible refine gate_callee (f := 32) rfl ?_); refine goesL_ (some 8) rfl rfl Try.func32 zG88 rfl #[.slice A0_3 l0_3.length c0_3, .int .i64 a1] rfl zG63 ?_; (with_reducible refine (laws_heldCartHoldS.calls k _ _ l0_3 a1 t256 _ ?side1 ?side2 A3.out).mono ?_); (case side1 => exact zH48); (case side2 => exact HC0_3.out); rintro e w' ⟨rfl, ⟨nd, rfl⟩⟩; refine ⟨_, rfl, ?_⟩))
  go_ret
  exact zH18
 rw [if_neg c4] at H
 have c4b0 := decide_eq_false c4
 clear c4
 obtain rfl := Option.some.inj H
 go_enter Try.func18, Try.ntmps18
 go_wp2_with (first | ((with_reducible refine gate_dst (N := 2) rfl ?_); refine box_event ?hg (N := 2) ?hd (cs := #[.int .i64 a0_0, .int .i64 a0_1, .int .i64 a0_2, .slice A0_3 l0_3.length c0_3]) (t := 30) ?hr ?_; (case hd => rfl); (case hg => rfl); (case hr => exact zH89); intro gb255 hg w7 hbox hb; have n_ := zA_ (za (zt zG70 hb)) (zA_ (za (hbox)) (zA_ (zN1 w.heap.size hg (zs zG70)) (zN1 w.heap.size hg (zs zG70)))); clear HB; obtain ⟨HB, BK255, GW255, GE255⟩ := n_; clear hb hbox hg; obtain ⟨hcz8_0, hcz8_1, hcz8_2, hcz8_3, hfz8_0, hfz8_1, hfz8_2, hfz8_3⟩ := zB4 BK255.out) | ((with_reducible refine gate_callee (f := 32) rfl ?_); refine goesL_ (some 8) rfl rfl Try.func32 zG88 rfl #[.slice A0_3 l0_3.length c0_3, .int .i64 a1] rfl zG63 ?_; (with_reducible refine (laws_heldCartHoldS.calls k _ _ l0_3 a1 t256 _ ?side1 ?side2 A3.out).mono ?_); (case side1 => exact zH48); (case side2 => exact HC0_3.out); rintro e w' ⟨rfl, ⟨nd, rfl⟩⟩; refine ⟨_, rfl, ?_⟩))
 go_ret
 exact zH18

end Go.Proofs.Ytdohpbhljifodaa.C
