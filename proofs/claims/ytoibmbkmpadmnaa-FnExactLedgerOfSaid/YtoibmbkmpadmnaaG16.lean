-- squeezed
-- made by pp.py (wip/tools) out of the translation; Lean checks it
import Derived.Test.YtoibmbkmpadmnaaG0
import Derived.Test.YtoibmbkmpadmnaaG13
import Derived.Test.YtoibmbkmpadmnaaG15
namespace Go.Proofs.Ytoibmbkmpadmnaa.G
open Go.RowKit Go.Proofs.YtoibmbkmpadmnaaW.PrintWords Go.Proofs.YtoibmbkmpadmnaaW.PrintLast Go.Proofs.YtoibmbkmpadmnaaW.PrintMore
attribute [local go_sem] max2_int min2_int max_two min_two max_three min_three max_four min_four   -- for this text's walks alone
set_option linter.unusedVariables false
set_option linter.unusedSimpArgs false

abbrev q16a := @blk_cell
/-! ### laws_heldStringS: function 41 -/
def laws_heldStringS.l0 : Nat → List ByteArray → Int → Int → Option (Int)
 | 0, _, _, _ => none
 | k + 1, x0, x1, x5 => if x5 < (x0.length : Int) then (if 0 ≤ x5 then ((laws_markText.f k x1).bind fun t257 => (if (rdOf ByteArray.empty x0 x5).toList = t257.toList then (laws_heldStringS.l0 k x0 (wrap64 (x1 + 1)) (wrap64 (x5 + 1))) else (some (-1)))) else (none)) else (some x1)
def laws_heldStringS.f (k : Nat) (l0 : List ByteArray) (a1 : Int) : Option (Int) := laws_heldStringS.l0 k l0 a1 0
theorem laws_heldStringS.mono_l : ∀ k, (∀ y0 y1 y2, LeO (laws_heldStringS.l0 k y0 y1 y2) (laws_heldStringS.l0 (k + 1) y0 y1 y2))
 | 0 => fun _ _ _ r h => by simp [laws_heldStringS.l0] at h
 | k + 1 => by
  have ih0 := laws_heldStringS.mono_l k
  ·intro y0 y1 y2
   unfold laws_heldStringS.l0
   repeat' first
   | (with_reducible exact ih0 _ _ _)
   | (with_reducible exact laws_markText.mono _ _)
   | (with_reducible exact LeO.refl _)
   | (with_reducible exact LeO.none _)
   | (with_reducible refine LeO.ite ?_ ?_)
   | (with_reducible refine LeO.bind ?_ (fun _ => ?_))
   | exact ih0 _ _ _
   | exact laws_markText.mono _ _
   | exact LeO.none _
   | refine LeO.ite ?_ ?_
   | refine LeO.bind ?_ (fun _ => ?_)
theorem laws_heldStringS.mono : ∀ a0 a1 k, LeO (laws_heldStringS.f k a0 a1) (laws_heldStringS.f (k + 1) a0 a1) := by
 intro a0 a1 k
 have ih0 := laws_heldStringS.mono_l k
 unfold laws_heldStringS.f
 repeat' first
   | (with_reducible exact ih0 _ _ _)
   | (with_reducible exact laws_markText.mono _ _)
   | (with_reducible exact LeO.refl _)
   | (with_reducible exact LeO.none _)
   | (with_reducible refine LeO.ite ?_ ?_)
   | (with_reducible refine LeO.bind ?_ (fun _ => ?_))
   | exact ih0 _ _ _
   | exact laws_markText.mono _ _
   | exact LeO.none _
   | refine LeO.ite ?_ ?_
   | refine LeO.bind ?_ (fun _ => ?_)
set_option maxHeartbeats 64000000 in
set_option maxRecDepth 100000 in
theorem laws_heldStringS.calls (k : Nat) (A0 : Option Addr) (c0 : Nat) (l0 : List ByteArray) (a1 : Int) (r : Int) (w : World) (hr0 : Kd.C Kd.string w A0 l0.length l0) (hc0 : l0.length ≤ c0) (h : laws_heldStringS.f k l0 a1 = some r) :
  Calls Try.prog 41 #[.slice A0 l0.length c0, .int .i64 a1] w fun e w' => e = .returned (.int .i64 r) ∧ Below w.heap.size w w' := by
 obtain ⟨HR0, HC0, HB⟩ := zD3 hr0 hc0 (Below.refl w.heap.size w)
 clear hr0 hc0
 have H : (laws_heldStringS.l0 k l0 a1 0) = some r := h
 clear h
 have H' := zb H
 clear H
 go_enter Try.func41, Try.ntmps41
 go_wp2
 go_loopg [1, 5] k (fun kq v1 v5 w' => ∃ (x1_1 : Int) (x5_1 : Int), v1 = .int .i64 x1_1 ∧ v5 = .int .i64 x5_1 ∧ Aside0 (laws_heldStringS.l0 kq l0 x1_1 x5_1 = some r) ∧ Aside0 (kq ≤ k) ∧ Aside0 (Below w.heap.size w w'))
 case atStart => exact ⟨(a1), (0), zG74, zG74, H', ⟨Nat.le_refl _⟩, ⟨zH82⟩⟩
 case round =>
  clear H'
  obtain ⟨x1_1, x5_1, rfl, rfl, HA, HK1, HB⟩ := hrel
  cases gk with
  | zero => exact absurd HA.out (by simp [laws_heldStringS.l0])
  | succ k1 =>
   have H := HA.out
   clear HA
   simp only [laws_heldStringS.l0] at H
   by_cases c3 : x5_1 < (l0.length : Int)
   rotate_left
   ·rw [if_neg c3] at H
    have c3b0 := decide_eq_false c3
    clear c3
    obtain rfl := Option.some.inj H
    go_wp2
    go_ret
    exact zH32

   rw [if_pos c3] at H
   have c3b0 := decide_eq_true c3
   clear c3
   by_cases c4 : 0 ≤ x5_1
   rotate_left
   ·rw [if_neg c4] at H
    exact absurd H (by simp)
   rw [if_pos c4] at H
   have c4b0 := decide_eq_true c4
   clear c4
   replace H := Option.bind_eq_some_iff.mp H
   obtain ⟨t257, A50, H⟩ := H
   replace H : (if (rdOf ByteArray.empty l0 x5_1).toList = t257.toList then (laws_heldStringS.l0 k1 l0 (wrap64 (x1_1 + 1)) (wrap64 (x5_1 + 1))) else (some (-1))) = some r := H
   have A5 := zb A50
   clear A50
   by_cases c6 : (rdOf ByteArray.empty l0 x5_1).toList = t257.toList
   rotate_left
   ·rw [if_neg c6] at H
    have c6b0 : ((rdOf ByteArray.empty l0 x5_1).toList == t257.toList) = false := beq_eq_false_iff_ne.mpr c6
    have c6b1 : ((rdOf ByteArray.empty l0 x5_1).toList != t257.toList) = true := bne_iff_ne.mpr c6
    obtain rfl := Option.some.inj H
    try go_wp2
    have n0_ := zb (ze HB.out)
    clear HB
    have HB := n0_
    clear n0_
    have p256 : 0 ≤ (x5_1 : Int) := zO
    have q256 : x5_1 < (l0.length : Int) := zO
    obtain ⟨ad256, e256, hx256_0⟩ := zan HR0.out x5_1 p256 q256
    have hw256_0 := hx256_0
    cases e256
    replace hx256_0 := (HB.out.cell (za w _ hx256_0)).trans hx256_0
    replace p256 := eq_true p256
    replace q256 := eq_true q256
    refine start_ (n := 7) (S := fun w' => w'.cell? (ad256.add (x5_1).toNat) = some (.string (rdOf ByteArray.empty l0 x5_1))) (ds := []) #[false, false, false, false, false, false, false] zG75 rfl rfl (((HB.out.cell (za w _ hw256_0)).trans hw256_0)) (fun hHeld => ?_)
    generalize wr.drew = w9 at HB hx256_0 hHeld ⊢
    refine pure_ (i := 0) (N := some 12) (v := ?_) (a' := ?_) #[true, false, false, false, false, false, false] rfl rfl zG75 (fun _ _ _ h => h) (Or.inl ⟨by rfl, ?_⟩) ?_ ?_
    rotate_left
    ·intro w'
     go_simp
     with_reducible rfl
    rotate_left
    ·simp only [Act.put, List.setIfInBounds_toArray, List.set_cons_zero, List.set_cons_succ, i64_w, i32_w]
     rfl
    refine pure_ (i := 1) (N := some 13) (v := ?_) (a' := ?_) #[true, true, false, false, false, false, false] rfl rfl zG75 (fun _ _ _ h => h) (Or.inl ⟨by rfl, ?_⟩) ?_ ?_
    rotate_left
    ·intro w'
     go_simp
     with_reducible rfl
    rotate_left
    ·simp only [Act.put, List.setIfInBounds_toArray, List.set_cons_zero, List.set_cons_succ, i64_w, i32_w]
     rfl
    refine pure_ (i := 2) (N := some 14) (v := ?_) (a' := ?_) #[true, true, true, false, false, false, false] rfl rfl zG75 (fun _ _ _ h => h) (Or.inl ⟨by rfl, ?_⟩) ?_ ?_
    rotate_left
    ·intro w'
     go_simp
     with_reducible rfl
    rotate_left
    ·simp only [Act.put, List.setIfInBounds_toArray, List.set_cons_zero, List.set_cons_succ, i64_w, i32_w]
     rfl
    refine pure_ (i := 4) (N := some 16) (v := ?_) (a' := ?_) #[true, true, true, false, true, false, false] rfl rfl zG75 (fun _ _ _ h => h) (Or.inl ⟨by rfl, ?_⟩) ?_ ?_
    rotate_left
    ·intro w'
     go_simp
     with_reducible rfl
    rotate_left
    ·simp only [Act.put, List.setIfInBounds_toArray, List.set_cons_zero, List.set_cons_succ, i64_w, i32_w]
     rfl
    refine take_ (i := 3) (N := some 15) (v := ?_) (a' := ?_) #[true, true, true, true, true, false, false] rfl rfl zG75 (fun _ _ _ h => h) (Or.inl ⟨by rfl, ?_⟩) hHeld ?_ ?_
    rotate_left
    ·intro w' s0
     go_simp
     with_reducible rfl
    rotate_left
    ·simp only [Act.put, List.setIfInBounds_toArray, List.set_cons_zero, List.set_cons_succ, i64_w, i32_w]
     rfl
    refine one_ (i := 5) (N := some 17) #[true, true, true, true, true, true, false] rfl rfl zG75 zG76 (fun K hK => ?_)
    refine goes_ Try.func36 zG75 rfl #[.int .i64 x1_1] (by rfl) rfl rfl zG55 ?_
    with_reducible refine (laws_markText.calls k1 x1_1 t257 _ A5.out).mono ?_
    rintro e w10 ⟨rfl, hb⟩
    refine ⟨_, rfl, ?_⟩
    have n0_ := zb (zr zG61 hb)
    clear HB
    have HB := n0_
    clear n0_
    (try clear hb)
    (try clear hb2)
    (try clear hk)
    (try clear hi)
    refine hK.out _ _ (((HB.out.cell (za w _ hw256_0)).trans hw256_0)) (fun hHeld => ?_)
    clear hK K
    refine norm_ (a' := ?_) ?_ ?_
    rotate_left
    ·show Act.put _ (some 17) _ = _
     simp only [Act.put, List.setIfInBounds_toArray, List.set_cons_zero, List.set_cons_succ, i64_w, i32_w]
     rfl
    refine pure_ (i := 6) (N := some 18) (v := ?_) (a' := ?_) #[true, true, true, true, true, true, true] rfl rfl zG75 (fun _ _ _ h => h) (Or.inl ⟨by rfl, ?_⟩) ?_ ?_
    rotate_left
    ·intro w'
     go_simp
     with_reducible rfl
    rotate_left
    ·simp only [Act.put, List.setIfInBounds_toArray, List.set_cons_zero, List.set_cons_succ, i64_w, i32_w]
     rfl
    refine done_ zG75 ?_
    try go_wp2
    go_ret
    exact zH32
   rw [if_pos c6] at H
   have c6b0 : ((rdOf ByteArray.empty l0 x5_1).toList == t257.toList) = true := beq_iff_eq.mpr c6
   have c6b1 : ((rdOf ByteArray.empty l0 x5_1).toList != t257.toList) = false := bne_eq_false_iff_eq.mpr c6
   clear c6
   have H' := zb H
   clear H
   try go_wp2
   have n0_ := zb (ze HB.out)
   clear HB
   have HB := n0_
   clear n0_
   have p256 : 0 ≤ (x5_1 : Int) := zO
   have q256 : x5_1 < (l0.length : Int) := zO
   obtain ⟨ad256, e256, hx256_0⟩ := zan HR0.out x5_1 p256 q256
   have hw256_0 := hx256_0
   cases e256
   replace hx256_0 := (HB.out.cell (za w _ hx256_0)).trans hx256_0
   replace p256 := eq_true p256
   replace q256 := eq_true q256
   refine start_ (n := 7) (S := fun w' => w'.cell? (ad256.add (x5_1).toNat) = some (.string (rdOf ByteArray.empty l0 x5_1))) (ds := []) #[false, false, false, false, false, false, false] zG75 rfl rfl (((HB.out.cell (za w _ hw256_0)).trans hw256_0)) (fun hHeld => ?_)
   generalize wr.drew = w7 at HB hx256_0 hHeld ⊢
   refine pure_ (i := 0) (N := some 12) (v := ?_) (a' := ?_) #[true, false, false, false, false, false, false] rfl rfl zG75 (fun _ _ _ h => h) (Or.inl ⟨by rfl, ?_⟩) ?_ ?_
   rotate_left
   ·intro w'
    go_simp
    with_reducible rfl
   rotate_left
   ·simp only [Act.put, List.setIfInBounds_toArray, List.set_cons_zero, List.set_cons_succ, i64_w, i32_w]
    rfl
   refine pure_ (i := 1) (N := some 13) (v := ?_) (a' := ?_) #[true, true, false, false, false, false, false] rfl rfl zG75 (fun _ _ _ h => h) (Or.inl ⟨by rfl, ?_⟩) ?_ ?_
   rotate_left
   ·intro w'
    go_simp
    with_reducible rfl
   rotate_left
   ·simp only [Act.put, List.setIfInBounds_toArray, List.set_cons_zero, List.set_cons_succ, i64_w, i32_w]
    rfl
   refine pure_ (i := 2) (N := some 14) (v := ?_) (a' := ?_) #[true, true, true, false, false, false, false] rfl rfl zG75 (fun _ _ _ h => h) (Or.inl ⟨by rfl, ?_⟩) ?_ ?_
   rotate_left
   ·intro w'
    go_simp
    with_reducible rfl
   rotate_left
   ·simp only [Act.put, List.setIfInBounds_toArray, List.set_cons_zero, List.set_cons_succ, i64_w, i32_w]
    rfl
   refine pure_ (i := 4) (N := some 16) (v := ?_) (a' := ?_) #[true, true, true, false, true, false, false] rfl rfl zG75 (fun _ _ _ h => h) (Or.inl ⟨by rfl, ?_⟩) ?_ ?_
   rotate_left
   ·intro w'
    go_simp
    with_reducible rfl
   rotate_left
   ·simp only [Act.put, List.setIfInBounds_toArray, List.set_cons_zero, List.set_cons_succ, i64_w, i32_w]
    rfl
   refine take_ (i := 3) (N := some 15) (v := ?_) (a' := ?_) #[true, true, true, true, true, false, false] rfl rfl zG75 (fun _ _ _ h => h) (Or.inl ⟨by rfl, ?_⟩) hHeld ?_ ?_
   rotate_left
   ·intro w' s0
    go_simp
    with_reducible rfl
   rotate_left
   ·simp only [Act.put, List.setIfInBounds_toArray, List.set_cons_zero, List.set_cons_succ, i64_w, i32_w]
    rfl
   refine one_ (i := 5) (N := some 17) #[true, true, true, true, true, true, false] rfl rfl zG75 zG76 (fun K hK => ?_)
   refine goes_ Try.func36 zG75 rfl #[.int .i64 x1_1] (by rfl) rfl rfl zG55 ?_
   with_reducible refine (laws_markText.calls k1 x1_1 t257 _ A5.out).mono ?_
   rintro e w8 ⟨rfl, hb⟩
   refine ⟨_, rfl, ?_⟩
   have n0_ := zb (zr zG61 hb)
   clear HB
   have HB := n0_
   clear n0_
   (try clear hb)
   (try clear hb2)
   (try clear hk)
   (try clear hi)
   refine hK.out _ _ (((HB.out.cell (za w _ hw256_0)).trans hw256_0)) (fun hHeld => ?_)
   clear hK K
   refine norm_ (a' := ?_) ?_ ?_
   rotate_left
   ·show Act.put _ (some 17) _ = _
    simp only [Act.put, List.setIfInBounds_toArray, List.set_cons_zero, List.set_cons_succ, i64_w, i32_w]
    rfl
   refine pure_ (i := 6) (N := some 18) (v := ?_) (a' := ?_) #[true, true, true, true, true, true, true] rfl rfl zG75 (fun _ _ _ h => h) (Or.inl ⟨by rfl, ?_⟩) ?_ ?_
   rotate_left
   ·intro w'
    go_simp
    with_reducible rfl
   rotate_left
   ·simp only [Act.put, List.setIfInBounds_toArray, List.set_cons_zero, List.set_cons_succ, i64_w, i32_w]
    rfl
   refine done_ zG75 ?_
   try go_wp2
   go_roundg k1
   case measure => have := HK1.out; omega
   case rel => exact ⟨(wrap64 (x1_1 + 1)), (wrap64 (x5_1 + 1)), zG74, zG74, H', ⟨zH106⟩, ⟨zH82⟩⟩
/-! ### laws_heldIntS: function 42 -/
def laws_heldIntS.l0 : Nat → List Int → Int → Int → Option (Int)
 | 0, _, _, _ => none
 | k + 1, x0, x1, x5 => if x5 < (x0.length : Int) then (if 0 ≤ x5 then (if (rd x0 x5) = x1 then (laws_heldIntS.l0 k x0 (wrap64 (x1 + 1)) (wrap64 (x5 + 1))) else (some (-1))) else (none)) else (some x1)
def laws_heldIntS.f (k : Nat) (l0 : List Int) (a1 : Int) : Option (Int) := laws_heldIntS.l0 k l0 a1 0
theorem laws_heldIntS.mono_l : ∀ k, (∀ y0 y1 y2, LeO (laws_heldIntS.l0 k y0 y1 y2) (laws_heldIntS.l0 (k + 1) y0 y1 y2))
 | 0 => fun _ _ _ r h => by simp [laws_heldIntS.l0] at h
 | k + 1 => by
  have ih0 := laws_heldIntS.mono_l k
  ·intro y0 y1 y2
   unfold laws_heldIntS.l0
   repeat' first
   | (with_reducible exact ih0 _ _ _)
   | (with_reducible exact LeO.refl _)
   | (with_reducible exact LeO.none _)
   | (with_reducible refine LeO.ite ?_ ?_)
   | (with_reducible refine LeO.bind ?_ (fun _ => ?_))
   | exact ih0 _ _ _
   | exact LeO.none _
   | refine LeO.ite ?_ ?_
   | refine LeO.bind ?_ (fun _ => ?_)
theorem laws_heldIntS.mono : ∀ a0 a1 k, LeO (laws_heldIntS.f k a0 a1) (laws_heldIntS.f (k + 1) a0 a1) := by
 intro a0 a1 k
 have ih0 := laws_heldIntS.mono_l k
 unfold laws_heldIntS.f
 repeat' first
   | (with_reducible exact ih0 _ _ _)
   | (with_reducible exact LeO.refl _)
   | (with_reducible exact LeO.none _)
   | (with_reducible refine LeO.ite ?_ ?_)
   | (with_reducible refine LeO.bind ?_ (fun _ => ?_))
   | exact ih0 _ _ _
   | exact LeO.none _
   | refine LeO.ite ?_ ?_
   | refine LeO.bind ?_ (fun _ => ?_)
set_option maxHeartbeats 64000000 in
set_option maxRecDepth 100000 in
theorem laws_heldIntS.calls (k : Nat) (A0 : Option Addr) (c0 : Nat) (l0 : List Int) (a1 : Int) (r : Int) (w : World) (hr0 : Kd.C (Kd.int .i64) w A0 l0.length l0) (hc0 : l0.length ≤ c0) (h : laws_heldIntS.f k l0 a1 = some r) :
  Calls Try.prog 42 #[.slice A0 l0.length c0, .int .i64 a1] w fun e w' => e = .returned (.int .i64 r) ∧ Drawn0 w w' := by
 obtain ⟨HR0, HC0⟩ := zD2 hr0 hc0
 clear hr0 hc0
 have H : (laws_heldIntS.l0 k l0 a1 0) = some r := h
 clear h
 have H' := zb H
 clear H
 go_enter Try.func42, Try.ntmps42
 go_wp2
 go_loopg [1, 5] k (fun kq v1 v5 w' => ∃ (x1_1 : Int) (x5_1 : Int), v1 = .int .i64 x1_1 ∧ v5 = .int .i64 x5_1 ∧ Aside0 (laws_heldIntS.l0 kq l0 x1_1 x5_1 = some r) ∧ Aside0 (kq ≤ k) ∧ Drawn0 w w')
 case atStart => exact ⟨(a1), (0), zG74, zG74, H', ⟨Nat.le_refl _⟩, zH97⟩
 case round =>
  clear H'
  obtain ⟨x1_1, x5_1, rfl, rfl, HA, HK1, ⟨m1, rfl⟩⟩ := hrel
  cases gk with
  | zero => exact absurd HA.out (by simp [laws_heldIntS.l0])
  | succ k1 =>
   have H := HA.out
   clear HA
   simp only [laws_heldIntS.l0] at H
   by_cases c3 : x5_1 < (l0.length : Int)
   rotate_left
   ·rw [if_neg c3] at H
    have c3b0 := decide_eq_false c3
    clear c3
    obtain rfl := Option.some.inj H
    go_wp2
    go_ret
    exact zH67

   rw [if_pos c3] at H
   have c3b0 := decide_eq_true c3
   clear c3
   by_cases c4 : 0 ≤ x5_1
   rotate_left
   ·rw [if_neg c4] at H
    exact absurd H (by simp)
   rw [if_pos c4] at H
   have c4b0 := decide_eq_true c4
   clear c4
   by_cases c5 : (rd l0 x5_1) = x1_1
   rotate_left
   ·rw [if_neg c5] at H
    have c5b0 : ((rd l0 x5_1) == x1_1) = false := beq_eq_false_iff_ne.mpr c5
    have c5b1 : ((rd l0 x5_1) != x1_1) = true := bne_iff_ne.mpr c5
    obtain rfl := Option.some.inj H
    have p258 : 0 ≤ (x5_1 : Int) := zO
    have q258 : x5_1 < (l0.length : Int) := zO
    obtain ⟨ad258, e258, hx258_0⟩ := zba HR0.out x5_1 p258 q258
    cases e258
    replace p258 := eq_true p258
    replace q258 := eq_true q258
    go_wp2
    go_ret
    exact zH67
   rw [if_pos c5] at H
   have c5b0 : ((rd l0 x5_1) == x1_1) = true := beq_iff_eq.mpr c5
   have c5b1 : ((rd l0 x5_1) != x1_1) = false := bne_eq_false_iff_eq.mpr c5
   clear c5
   have H' := zb H
   clear H
   have p258 : 0 ≤ (x5_1 : Int) := zO
   have q258 : x5_1 < (l0.length : Int) := zO
   obtain ⟨ad258, e258, hx258_0⟩ := zba HR0.out x5_1 p258 q258
   cases e258
   replace p258 := eq_true p258
   replace q258 := eq_true q258
   go_wp2
   go_roundg k1
   case measure => have := HK1.out; omega
   case rel => exact ⟨(wrap64 (x1_1 + 1)), (wrap64 (x5_1 + 1)), zG74, zG74, H', ⟨zH106⟩, zH97⟩
/-! ### laws_heldLedger: function 17 -/
def laws_heldLedger.f (k : Nat) (l0_0 : List (S39)) (l0_1 : List ByteArray) (l0_2 : List Int) (a1 : Int) : Option (Int) := (laws_heldCardS.f k l0_0 a1).bind fun t260 => (if t260 < 0 then (some (-1)) else ((laws_heldStringS.f k l0_1 t260).bind fun t261 => (if t261 < 0 then (some (-1)) else ((laws_heldIntS.f k l0_2 t261).bind fun t262 => (if t262 < 0 then (some (-1)) else (some t262))))))
theorem laws_heldLedger.mono : ∀ a0 a1 a2 a3 k, LeO (laws_heldLedger.f k a0 a1 a2 a3) (laws_heldLedger.f (k + 1) a0 a1 a2 a3) := by
 intro a0 a1 a2 a3 k
 unfold laws_heldLedger.f
 repeat' first
   | (with_reducible exact laws_heldCardS.mono _ _ _)
   | (with_reducible exact laws_heldIntS.mono _ _ _)
   | (with_reducible exact laws_heldStringS.mono _ _ _)
   | (with_reducible exact LeO.refl _)
   | (with_reducible exact LeO.none _)
   | (with_reducible refine LeO.ite ?_ ?_)
   | (with_reducible refine LeO.bind ?_ (fun _ => ?_))
   | exact laws_heldCardS.mono _ _ _
   | exact laws_heldIntS.mono _ _ _
   | exact laws_heldStringS.mono _ _ _
   | exact LeO.none _
   | refine LeO.ite ?_ ?_
   | refine LeO.bind ?_ (fun _ => ?_)
set_option maxHeartbeats 64000000 in
set_option maxRecDepth 100000 in
theorem laws_heldLedger.calls (k : Nat) (A0_0 : Option Addr) (c0_0 : Nat) (l0_0 : List (S39)) (A0_1 : Option Addr) (c0_1 : Nat) (l0_1 : List ByteArray) (A0_2 : Option Addr) (c0_2 : Nat) (l0_2 : List Int) (a1 : Int) (r : Int) (w : World) (hr0_0 : Kd.C k39 w A0_0 l0_0.length l0_0) (hc0_0 : l0_0.length ≤ c0_0) (hr0_1 : Kd.C Kd.string w A0_1 l0_1.length l0_1) (hc0_1 : l0_1.length ≤ c0_1) (hr0_2 : Kd.C (Kd.int .i64) w A0_2 l0_2.length l0_2) (hc0_2 : l0_2.length ≤ c0_2) (h : laws_heldLedger.f k l0_0 l0_1 l0_2 a1 = some r) :
  Calls Try.prog 17 #[.agg #[.slice A0_0 l0_0.length c0_0, .slice A0_1 l0_1.length c0_1, .slice A0_2 l0_2.length c0_2], .int .i64 a1] w fun e w' => e = .returned (.int .i64 r) ∧ Below w.heap.size w w' := by
 have hu31 := Try.underlying31
 obtain ⟨HR0_0, HC0_0, HR0_1, HC0_1, HR0_2, HC0_2, HB⟩ := zD7 hr0_0 hc0_0 hr0_1 hc0_1 hr0_2 hc0_2 (Below.refl w.heap.size w)
 clear hr0_0 hc0_0 hr0_1 hc0_1 hr0_2 hc0_2
 have H : ((laws_heldCardS.f k l0_0 a1).bind fun t260 => (if t260 < 0 then (some (-1)) else ((laws_heldStringS.f k l0_1 t260).bind fun t261 => (if t261 < 0 then (some (-1)) else ((laws_heldIntS.f k l0_2 t261).bind fun t262 => (if t262 < 0 then (some (-1)) else (some t262))))))) = some r := h
 clear h
 replace H := Option.bind_eq_some_iff.mp H
 obtain ⟨t260, A30, H⟩ := H
 replace H : (if t260 < 0 then (some (-1)) else ((laws_heldStringS.f k l0_1 t260).bind fun t261 => (if t261 < 0 then (some (-1)) else ((laws_heldIntS.f k l0_2 t261).bind fun t262 => (if t262 < 0 then (some (-1)) else (some t262)))))) = some r := H
 have A3 := zb A30
 clear A30
 by_cases c4 : t260 < 0
 ·rw [if_pos c4] at H
  have c4b0 := decide_eq_true c4
  clear c4
  obtain rfl := Option.some.inj H
  go_enter Try.func17, Try.ntmps17
  go_wp2_with (first | ((with_reducible refine gate_dst (N := 2) rfl ?_); refine box_event ?hg (N := 2) ?hd (cs := #[.slice A0_0 l0_0.length c0_0, .slice A0_1 l0_1.length c0_1, .slice A0_2 l0_2.length c0_2]) (t := 31) ?hr ?_; (case hd => rfl); (case hg => rfl); (case hr => exact zH101); intro gb259 hg w5 hbox hb; have n_ := zA_ (zb (zr zG61 hb)) (zA_ (zb (hbox)) (zA_ (zN1 w.heap.size hg (zq zG61)) (zN1 w.heap.size hg (zq zG61)))); clear HB; obtain ⟨HB, BK259, GW259, GE259⟩ := n_; clear hb hbox hg; have hcz6_0 : w5.cell? ⟨gb259, 0, none⟩ = some (.slice A0_0 l0_0.length c0_0) := (q16a BK259.out 0).trans rfl; have hcz6_1 : w5.cell? ⟨gb259, 1, none⟩ = some (.slice A0_1 l0_1.length c0_1) := (q16a BK259.out 1).trans rfl; have hcz6_2 : w5.cell? ⟨gb259, 2, none⟩ = some (.slice A0_2 l0_2.length c0_2) := (q16a BK259.out 2).trans rfl; have hfz6_0 := zd BK259.out 0; have hfz6_1 := zd BK259.out 1; have hfz6_2 := zd BK259.out 2) | ((with_reducible refine gate_callee (f := 40) rfl ?_); refine goesL_ (some 8) rfl rfl Try.func40 zG75 rfl #[.slice A0_0 l0_0.length c0_0, .int .i64 a1] rfl zG55 ?_; (with_reducible refine (laws_heldCardS.calls k _ _ l0_0 a1 t260 _ ?side1 ?side2 A3.out).mono ?_); (case side1 => exact zH56); (case side2 => exact HC0_0.out); rintro e w7 ⟨rfl, hb⟩; refine ⟨_, rfl, ?_⟩; have n_ := zA_ (zb (zt (g := gb259) (o := .cells #[.slice A0_0 l0_0.length c0_0, .slice A0_1 l0_1.length c0_1, .slice A0_2 l0_2.length c0_2] 31 (0, 0)) zK160 hb)) (zb (zr zK149 hb)); clear BK259 HB; obtain ⟨BK259, HB⟩ := n_; (try clear hb)))
  go_ret
  exact zH27
 rw [if_neg c4] at H
 have c4b0 := decide_eq_false c4
 clear c4
 replace H := Option.bind_eq_some_iff.mp H
 obtain ⟨t261, A80, H⟩ := H
 replace H : (if t261 < 0 then (some (-1)) else ((laws_heldIntS.f k l0_2 t261).bind fun t262 => (if t262 < 0 then (some (-1)) else (some t262)))) = some r := H
 have A8 := zb A80
 clear A80
 by_cases c9 : t261 < 0
 ·rw [if_pos c9] at H
  have c9b0 := decide_eq_true c9
  clear c9
  obtain rfl := Option.some.inj H
  go_enter Try.func17, Try.ntmps17
  go_wp2_with (first | ((with_reducible refine gate_dst (N := 2) rfl ?_); refine box_event ?hg (N := 2) ?hd (cs := #[.slice A0_0 l0_0.length c0_0, .slice A0_1 l0_1.length c0_1, .slice A0_2 l0_2.length c0_2]) (t := 31) ?hr ?_; (case hd => rfl); (case hg => rfl); (case hr => exact zH101); intro gb259 hg w10 hbox hb; have n_ := zA_ (zb (zr zG61 hb)) (zA_ (zb (hbox)) (zA_ (zN1 w.heap.size hg (zq zG61)) (zN1 w.heap.size hg (zq zG61)))); clear HB; obtain ⟨HB, BK259, GW259, GE259⟩ := n_; clear hb hbox hg; have hcz11_0 : w10.cell? ⟨gb259, 0, none⟩ = some (.slice A0_0 l0_0.length c0_0) := (q16a BK259.out 0).trans rfl; have hcz11_1 : w10.cell? ⟨gb259, 1, none⟩ = some (.slice A0_1 l0_1.length c0_1) := (q16a BK259.out 1).trans rfl; have hcz11_2 : w10.cell? ⟨gb259, 2, none⟩ = some (.slice A0_2 l0_2.length c0_2) := (q16a BK259.out 2).trans rfl; have hfz11_0 := zd BK259.out 0; have hfz11_1 := zd BK259.out 1; have hfz11_2 := zd BK259.out 2) | ((with_reducible refine gate_callee (f := 40) rfl ?_); refine goesL_ (some 8) rfl rfl Try.func40 zG75 rfl #[.slice A0_0 l0_0.length c0_0, .int .i64 a1] rfl zG55 ?_; (with_reducible refine (laws_heldCardS.calls k _ _ l0_0 a1 t260 _ ?side1 ?side2 A3.out).mono ?_); (case side1 => exact zH56); (case side2 => exact HC0_0.out); rintro e w12 ⟨rfl, hb⟩; refine ⟨_, rfl, ?_⟩; have n_ := zA_ (zb (zt (g := gb259) (o := .cells #[.slice A0_0 l0_0.length c0_0, .slice A0_1 l0_1.length c0_1, .slice A0_2 l0_2.length c0_2] 31 (0, 0)) zK160 hb)) (zb (zr zK149 hb)); clear BK259 HB; obtain ⟨BK259, HB⟩ := n_; (try clear hb); have hcz13_0 : w12.cell? ⟨gb259, 0, none⟩ = some (.slice A0_0 l0_0.length c0_0) := (q16a BK259.out 0).trans rfl; have hcz13_1 : w12.cell? ⟨gb259, 1, none⟩ = some (.slice A0_1 l0_1.length c0_1) := (q16a BK259.out 1).trans rfl; have hcz13_2 : w12.cell? ⟨gb259, 2, none⟩ = some (.slice A0_2 l0_2.length c0_2) := (q16a BK259.out 2).trans rfl; have hfz13_0 := zd BK259.out 0; have hfz13_1 := zd BK259.out 1; have hfz13_2 := zd BK259.out 2) | ((with_reducible refine gate_callee (f := 41) rfl ?_); refine goesL_ (some 14) rfl rfl Try.func41 zG75 rfl #[.slice A0_1 l0_1.length c0_1, .int .i64 t260] rfl zG55 ?_; (with_reducible refine (laws_heldStringS.calls k _ _ l0_1 t260 t261 _ ?side1 ?side2 A8.out).mono ?_); (case side1 => exact zH55); (case side2 => exact HC0_1.out); rintro e w14 ⟨rfl, hb⟩; refine ⟨_, rfl, ?_⟩; have n_ := zA_ (zb (zt (g := gb259) (o := .cells #[.slice A0_0 l0_0.length c0_0, .slice A0_1 l0_1.length c0_1, .slice A0_2 l0_2.length c0_2] 31 (0, 0)) zK160 hb)) (zb (zr zK149 hb)); clear BK259 HB; obtain ⟨BK259, HB⟩ := n_; (try clear hb)))
  go_ret
  exact zH27
 rw [if_neg c9] at H
 have c9b0 := decide_eq_false c9
 clear c9
 replace H := Option.bind_eq_some_iff.mp H
 obtain ⟨t262, A150, H⟩ := H
 replace H : (if t262 < 0 then (some (-1)) else (some t262)) = some r := H
 have A15 := zb A150
 clear A150
 by_cases c16 : t262 < 0
 ·rw [if_pos c16] at H
  have c16b0 := decide_eq_true c16
  clear c16
  obtain rfl := Option.some.inj H
  go_enter Try.func17, Try.ntmps17
  go_wp2_with (first | ((with_reducible refine gate_dst (N := 2) rfl ?_); refine box_event ?hg (N := 2) ?hd (cs := #[.slice A0_0 l0_0.length c0_0, .slice A0_1 l0_1.length c0_1, .slice A0_2 l0_2.length c0_2]) (t := 31) ?hr ?_; (case hd => rfl); (case hg => rfl); (case hr => exact zH101); intro gb259 hg w17 hbox hb; have n_ := zA_ (zb (zr zG61 hb)) (zA_ (zb (hbox)) (zA_ (zN1 w.heap.size hg (zq zG61)) (zN1 w.heap.size hg (zq zG61)))); clear HB; obtain ⟨HB, BK259, GW259, GE259⟩ := n_; clear hb hbox hg; have hcz18_0 : w17.cell? ⟨gb259, 0, none⟩ = some (.slice A0_0 l0_0.length c0_0) := (q16a BK259.out 0).trans rfl; have hcz18_1 : w17.cell? ⟨gb259, 1, none⟩ = some (.slice A0_1 l0_1.length c0_1) := (q16a BK259.out 1).trans rfl; have hcz18_2 : w17.cell? ⟨gb259, 2, none⟩ = some (.slice A0_2 l0_2.length c0_2) := (q16a BK259.out 2).trans rfl; have hfz18_0 := zd BK259.out 0; have hfz18_1 := zd BK259.out 1; have hfz18_2 := zd BK259.out 2) | ((with_reducible refine gate_callee (f := 40) rfl ?_); refine goesL_ (some 8) rfl rfl Try.func40 zG75 rfl #[.slice A0_0 l0_0.length c0_0, .int .i64 a1] rfl zG55 ?_; (with_reducible refine (laws_heldCardS.calls k _ _ l0_0 a1 t260 _ ?side1 ?side2 A3.out).mono ?_); (case side1 => exact zH56); (case side2 => exact HC0_0.out); rintro e w19 ⟨rfl, hb⟩; refine ⟨_, rfl, ?_⟩; have n_ := zA_ (zb (zt (g := gb259) (o := .cells #[.slice A0_0 l0_0.length c0_0, .slice A0_1 l0_1.length c0_1, .slice A0_2 l0_2.length c0_2] 31 (0, 0)) zK160 hb)) (zb (zr zK149 hb)); clear BK259 HB; obtain ⟨BK259, HB⟩ := n_; (try clear hb); have hcz20_0 : w19.cell? ⟨gb259, 0, none⟩ = some (.slice A0_0 l0_0.length c0_0) := (q16a BK259.out 0).trans rfl; have hcz20_1 : w19.cell? ⟨gb259, 1, none⟩ = some (.slice A0_1 l0_1.length c0_1) := (q16a BK259.out 1).trans rfl; have hcz20_2 : w19.cell? ⟨gb259, 2, none⟩ = some (.slice A0_2 l0_2.length c0_2) := (q16a BK259.out 2).trans rfl; have hfz20_0 := zd BK259.out 0; have hfz20_1 := zd BK259.out 1; have hfz20_2 := zd BK259.out 2) | ((with_reducible refine gate_callee (f := 41) rfl ?_); refine goesL_ (some 14) rfl rfl Try.func41 zG75 rfl #[.slice A0_1 l0_1.length c0_1, .int .i64 t260] rfl zG55 ?_; (with_reducible refine (laws_heldStringS.calls k _ _ l0_1 t260 t261 _ ?side1 ?side2 A8.out).mono ?_); (case side1 => exact zH55); (case side2 => exact HC0_1.out); rintro e w21 ⟨rfl, hb⟩; refine ⟨_, rfl, ?_⟩; have n_ := zA_ (zb (zt (g := gb259) (o := .cells #[.slice A0_0 l0_0.length c0_0, .slice A0_1 l0_1.length c0_1, .slice A0_2 l0_2.length c0_2] 31 (0, 0)) zK160 hb)) (zb (zr zK149 hb)); clear BK259 HB; obtain ⟨BK259, HB⟩ := n_; (try clear hb); have hcz22_0 : w21.cell? ⟨gb259, 0, none⟩ = some (.slice A0_0 l0_0.length c0_0) := (q16a BK259.out 0).trans rfl; have hcz22_1 : w21.cell? ⟨gb259, 1, none⟩ = some (.slice A0_1 l0_1.length c0_1) := (q16a BK259.out 1).trans rfl; have hcz22_2 : w21.cell? ⟨gb259, 2, none⟩ = some (.slice A0_2 l0_2.length c0_2) := (q16a BK259.out 2).trans rfl; have hfz22_0 := zd BK259.out 0; have hfz22_1 := zd BK259.out 1; have hfz22_2 := zd BK259.out 2) | ((with_reducible refine gate_callee (f := 42) rfl ?_); refine goesL_ (some 20) rfl rfl Try.func42 zG75 rfl #[.slice A0_2 l0_2.length c0_2, .int .i64 t261] rfl zG55 ?_; (with_reducible refine (laws_heldIntS.calls k _ _ l0_2 t261 t262 _ ?side1 ?side2 A15.out).mono ?_); (case side1 => exact zH52); (case side2 => exact HC0_2.out); rintro e w' ⟨rfl, ⟨nd, rfl⟩⟩; refine ⟨_, rfl, ?_⟩))
  go_ret
  exact zH27
 rw [if_neg c16] at H
 have c16b0 := decide_eq_false c16
 clear c16
 obtain rfl := Option.some.inj H
 go_enter Try.func17, Try.ntmps17
 go_wp2_with (first | ((with_reducible refine gate_dst (N := 2) rfl ?_); refine box_event ?hg (N := 2) ?hd (cs := #[.slice A0_0 l0_0.length c0_0, .slice A0_1 l0_1.length c0_1, .slice A0_2 l0_2.length c0_2]) (t := 31) ?hr ?_; (case hd => rfl); (case hg => rfl); (case hr => exact zH101); intro gb259 hg w23 hbox hb; have n_ := zA_ (zb (zr zG61 hb)) (zA_ (zb (hbox)) (zA_ (zN1 w.heap.size hg (zq zG61)) (zN1 w.heap.size hg (zq zG61)))); clear HB; obtain ⟨HB, BK259, GW259, GE259⟩ := n_; clear hb hbox hg; have hcz24_0 : w23.cell? ⟨gb259, 0, none⟩ = some (.slice A0_0 l0_0.length c0_0) := (q16a BK259.out 0).trans rfl; have hcz24_1 : w23.cell? ⟨gb259, 1, none⟩ = some (.slice A0_1 l0_1.length c0_1) := (q16a BK259.out 1).trans rfl; have hcz24_2 : w23.cell? ⟨gb259, 2, none⟩ = some (.slice A0_2 l0_2.length c0_2) := (q16a BK259.out 2).trans rfl; have hfz24_0 := zd BK259.out 0; have hfz24_1 := zd BK259.out 1; have hfz24_2 := zd BK259.out 2) | ((with_reducible refine gate_callee (f := 40) rfl ?_); refine goesL_ (some 8) rfl rfl Try.func40 zG75 rfl #[.slice A0_0 l0_0.length c0_0, .int .i64 a1] rfl zG55 ?_; (with_reducible refine (laws_heldCardS.calls k _ _ l0_0 a1 t260 _ ?side1 ?side2 A3.out).mono ?_); (case side1 => exact zH56); (case side2 => exact HC0_0.out); rintro e w25 ⟨rfl, hb⟩; refine ⟨_, rfl, ?_⟩; have n_ := zA_ (zb (zt (g := gb259) (o := .cells #[.slice A0_0 l0_0.length c0_0, .slice A0_1 l0_1.length c0_1, .slice A0_2 l0_2.length c0_2] 31 (0, 0)) zK160 hb)) (zb (zr zK149 hb)); clear BK259 HB; obtain ⟨BK259, HB⟩ := n_; (try clear hb); have hcz26_0 : w25.cell? ⟨gb259, 0, none⟩ = some (.slice A0_0 l0_0.length c0_0) := (q16a BK259.out 0).trans rfl; have hcz26_1 : w25.cell? ⟨gb259, 1, none⟩ = some (.slice A0_1 l0_1.length c0_1) := (q16a BK259.out 1).trans rfl; have hcz26_2 : w25.cell? ⟨gb259, 2, none⟩ = some (.slice A0_2 l0_2.length c0_2) := (q16a BK259.out 2).trans rfl; have hfz26_0 := zd BK259.out 0; have hfz26_1 := zd BK259.out 1; have hfz26_2 := zd BK259.out 2) | ((with_reducible refine gate_callee (f := 41) rfl ?_); refine goesL_ (some 14) rfl rfl Try.func41 zG75 rfl #[.slice A0_1 l0_1.length c0_1, .int .i64 t260] rfl zG55 ?_; (with_reducible refine (laws_heldStringS.calls k _ _ l0_1 t260 t261 _ ?side1 ?side2 A8.out).mono ?_); (case side1 => exact zH55); (case side2 => exact HC0_1.out); rintro e w27 ⟨rfl, hb⟩; refine ⟨_, rfl, ?_⟩; have n_ := zA_ (zb (zt (g := gb259) (o := .cells #[.slice A0_0 l0_0.length c0_0, .slice A0_1 l0_1.length c0_1, .slice A0_2 l0_2.length c0_2] 31 (0, 0)) zK160 hb)) (zb (zr zK149 hb)); clear BK259 HB; obtain ⟨BK259, HB⟩ := n_; (try clear hb); have hcz28_0 : w27.cell? ⟨gb259, 0, none⟩ = some (.slice A0_0 l0_0.length c0_0) := (q16a BK259.out 0).trans rfl; have hcz28_1 : w27.cell? ⟨gb259, 1, none⟩ = some (.slice A0_1 l0_1.length c0_1) := (q16a BK259.out 1).trans rfl; have hcz28_2 : w27.cell? ⟨gb259, 2, none⟩ = some (.slice A0_2 l0_2.length c0_2) := (q16a BK259.out 2).trans rfl; have hfz28_0 := zd BK259.out 0; have hfz28_1 := zd BK259.out 1; have hfz28_2 := zd BK259.out 2) | ((with_reducible refine gate_callee (f := 42) rfl ?_); refine goesL_ (some 20) rfl rfl Try.func42 zG75 rfl #[.slice A0_2 l0_2.length c0_2, .int .i64 t261] rfl zG55 ?_; (with_reducible refine (laws_heldIntS.calls k _ _ l0_2 t261 t262 _ ?side1 ?side2 A15.out).mono ?_); (case side1 => exact zH52); (case side2 => exact HC0_2.out); rintro e w' ⟨rfl, ⟨nd, rfl⟩⟩; refine ⟨_, rfl, ?_⟩))
 go_ret
 exact zH27

end Go.Proofs.Ytoibmbkmpadmnaa.G
