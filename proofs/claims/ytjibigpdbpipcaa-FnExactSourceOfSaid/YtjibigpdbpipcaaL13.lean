-- squeezed
-- made by pp.py (wip/tools) out of the translation; Lean checks it
import Derived.Laws.CopyRow
import Derived.Test.YtjibigpdbpipcaaL0
namespace Go.Proofs.Ytjibigpdbpipcaa.L
open Go.RowKit Go.Proofs.YtjibigpdbpipcaaW.PrintWords Go.Proofs.YtjibigpdbpipcaaW.PrintLast Go.Proofs.YtjibigpdbpipcaaW.PrintMore
attribute [local go_sem] max2_int min2_int max_two min_two max_three min_three max_four min_four   -- for this text's walks alone
set_option linter.unusedVariables false
set_option linter.unusedSimpArgs false


/-! ### laws_markText: function 49 -/
def laws_markText.l0 : Nat → Int → ByteArray → Option (ByteArray)
 | 0, _, _ => none
 | k + 1, x0, x3 => if x0 > 0 then ((some (([(wrap64 (48 + (Int.tmod x0 10))) % 256] : List Int) : List Int)).bind fun y283 => (if (strOfNums y283).size + x3.size ≤ 9223372036854775807 then (laws_markText.l0 k (wrap64 (Int.tdiv x0 10)) ((strOfNums y283) ++ x3)) else (none))) else (if 1 + x3.size ≤ 9223372036854775807 then (some ((⟨#[109]⟩ : ByteArray) ++ x3)) else (none))
def laws_markText.f (k : Nat) (a0 : Int) : Option (ByteArray) := if a0 ≤ 0 then (some (⟨#[109, 48]⟩ : ByteArray)) else (laws_markText.l0 k a0 (⟨#[]⟩ : ByteArray))
theorem laws_markText.mono_l : ∀ k, (∀ y0 y1, LeO (laws_markText.l0 k y0 y1) (laws_markText.l0 (k + 1) y0 y1))
 | 0 => fun _ _ r h => by simp [laws_markText.l0] at h
 | k + 1 => by
  have ih0 := laws_markText.mono_l k
  ·intro y0 y1
   unfold laws_markText.l0
   repeat' first
   | (with_reducible exact ih0 _ _)
   | (with_reducible exact LeO.refl _)
   | (with_reducible exact LeO.none _)
   | (with_reducible refine LeO.ite ?_ ?_)
   | (with_reducible refine LeO.bind ?_ (fun _ => ?_))
   | exact ih0 _ _
   | exact LeO.none _
   | refine LeO.ite ?_ ?_
   | refine LeO.bind ?_ (fun _ => ?_)
theorem laws_markText.mono : ∀ a0 k, LeO (laws_markText.f k a0) (laws_markText.f (k + 1) a0) := by
 intro a0 k
 have ih0 := laws_markText.mono_l k
 unfold laws_markText.f
 repeat' first
   | (with_reducible exact ih0 _ _)
   | (with_reducible exact LeO.refl _)
   | (with_reducible exact LeO.none _)
   | (with_reducible refine LeO.ite ?_ ?_)
   | (with_reducible refine LeO.bind ?_ (fun _ => ?_))
   | exact ih0 _ _
   | exact LeO.none _
   | refine LeO.ite ?_ ?_
   | refine LeO.bind ?_ (fun _ => ?_)
set_option maxHeartbeats 8000000 in
set_option maxRecDepth 100000 in
theorem laws_markText.calls (k : Nat) (a0 : Int) (r : ByteArray) (w : World) (h : laws_markText.f k a0 = some r) :
  Calls Try.prog 49 #[.int .i64 a0] w fun e w' => e = .returned (.string r) ∧ Below w.heap.size w w' := by
 have HB := za (Below.refl w.heap.size w)
 have H : (if a0 ≤ 0 then (some (⟨#[109, 48]⟩ : ByteArray)) else (laws_markText.l0 k a0 (⟨#[]⟩ : ByteArray))) = some r := h
 clear h
 by_cases c2 : a0 ≤ 0
 ·rw [if_pos c2] at H
  have c2b0 : decide (a0 ≤ 0) = true := decide_eq_true c2
  clear c2
  obtain rfl := Option.some.inj H
  go_enter Try.func49, Try.ntmps49
  go_wp2
  go_ret
  exact ⟨by first | rfl | (simp [errW_none, errW_some] <;> rfl) | (simp [*, errW_none, errW_some] <;> rfl), by repeat (first | (with_reducible first | exact HB.out | apply zd | apply zb | apply zc) | exact HB.out)⟩
 ·rw [if_neg c2] at H
  have c2b0 : decide (a0 ≤ 0) = false := decide_eq_false c2
  clear c2
  have H' := za H
  clear H
  go_enter Try.func49, Try.ntmps49
  go_wp2
  go_loopg [0, 3] k (fun kq v0 v3 w' => ∃ (x0_1 : Int) (x3_1 : ByteArray), v0 = .int .i64 x0_1 ∧ v3 = .string x3_1 ∧ Aside0 (laws_markText.l0 kq x0_1 x3_1 = some r) ∧ Aside0 (kq ≤ k) ∧ Aside0 (Below w.heap.size w w'))
  case atStart => exact ⟨(a0), ((⟨#[]⟩ : ByteArray)), zG82, zG82, H', ⟨Nat.le_refl _⟩, ⟨by repeat (first | (with_reducible first | exact HB.out | apply zd | apply zb | apply zc) | exact HB.out)⟩⟩
  case round =>
   clear H'
   try clear c2
   try clear c2b0
   try clear p2
   obtain ⟨x0_1, x3_1, rfl, rfl, HA, HK1, HB⟩ := hrel
   cases gk with
   | zero => exact absurd HA.out (by simp [laws_markText.l0])
   | succ k1 =>
    have H := HA.out
    clear HA
    simp only [laws_markText.l0] at H
    by_cases c3 : x0_1 > 0
    ·rw [if_pos c3] at H
     have c3b0 : decide (0 < x0_1) = true := decide_eq_true c3
     clear c3
     obtain ⟨y283, hy283⟩ : ∃ y_ : List Int, y_ = (([(wrap64 (48 + (Int.tmod x0_1 10))) % 256] : List Int)) := ⟨_, rfl⟩
     replace H : (if (strOfNums y283).size + x3_1.size ≤ 9223372036854775807 then (laws_markText.l0 k1 (wrap64 (Int.tdiv x0_1 10)) ((strOfNums y283) ++ x3_1)) else (none)) = some r := by first | (rw [hy283]; with_reducible exact H) | (have H2_ := (Option.bind_some _ _).symm.trans H; rw [hy283]; with_reducible exact H2_) | (have H2_ := (Option.bind_some _ _).symm.trans H; with_reducible exact H2_) | with_reducible exact H | (rw [hy283]; exact H) | exact H
     have Ny283 := za hy283
     clear hy283
     by_cases c4 : (strOfNums y283).size + x3_1.size ≤ 9223372036854775807
     ·rw [if_pos c4] at H
      have c4b0 := eq_true c4
      have c4b1 : decide ((strOfNums y283).size + x3_1.size ≤ 9223372036854775807) = true := decide_eq_true c4
      try have c4b2 : (9223372036854775807 < (strOfNums y283).size + x3_1.size) = False := eq_false (Nat.not_lt.2 c4)
      have H' := za H
      clear H
      go_wp2_with (first | ((with_reducible refine gate_dst (N := 12) rfl ?_); refine Kd.R_lit (Kd.int .u8) _ 5 ?hg (N := 12) ?hd (xs := ([(wrap64 (48 + (Int.tmod x0_1 10))) % 256] : List Int)) (inner := [.int .u8 ((wrap64 (48 + (Int.tmod x0_1 10))) % 256)]) (ok := fun _ => True) (okp := fun _ => True) ?hr ?hp (fun _ hk => hk) trivial (Below.refl _ _) (Nat.le_refl _) (by simp) ?_; (case hd => rfl); (case hg => rfl); (case hr => first | (go_simp; done) | (go_simp; rfl)); (case hp => exact (Reps.one (show Kd.M (Kd.int .u8) _ _ _ ((wrap64 (48 + (Int.tmod x0_1 10))) % 256) [.int .u8 ((wrap64 (48 + (Int.tmod x0_1 10))) % 256)] from rfl) (Reps.none _ _))); intro v284 w5 ho6 hb hg_ hnew_; clear hg_ hnew_; (first | rw [← Ny283.out] at ho6 | (simp only [Int.reduceToNat] at ho6; rw [← Ny283.out] at ho6)); have n0_ := za (zaj ho6 (zo zG72)); have n1_ := za (zq zG72 hb); clear HB; have HO285 := n0_; have HB := n1_; clear n0_ n1_; clear hb ho6; have hcv7 := own_string (P := Try.prog) Try.underlying114 Try.underlying5 Try.underlying9 (Kd.own_of_R HO285.out)))
      go_roundg k1
      case measure => have := HK1.out; omega
      case rel => exact ⟨(wrap64 (Int.tdiv x0_1 10)), ((strOfNums y283) ++ x3_1), zG82, zG82, H', ⟨by have := HK1.out; omega⟩, ⟨by repeat (first | (with_reducible first | exact HB.out | apply zd | apply zb | apply zc) | exact HB.out)⟩⟩
     ·rw [if_neg c4] at H
      exact absurd H (by simp)
    ·rw [if_neg c3] at H
     have c3b0 : decide (0 < x0_1) = false := decide_eq_false c3
     clear c3
     by_cases c8 : 1 + x3_1.size ≤ 9223372036854775807
     ·rw [if_pos c8] at H
      have c8b0 := eq_true c8
      have c8b1 : decide (1 + x3_1.size ≤ 9223372036854775807) = true := decide_eq_true c8
      try have c8b2 : (9223372036854775807 < 1 + x3_1.size) = False := eq_false (Nat.not_lt.2 c8)
      obtain rfl := Option.some.inj H
      go_wp2
      go_ret
      exact ⟨by first | rfl | (simp [errW_none, errW_some] <;> rfl) | (simp [*, errW_none, errW_some] <;> rfl), by repeat (first | (with_reducible first | exact HB.out | apply zd | apply zb | apply zc) | exact HB.out)⟩
     ·rw [if_neg c8] at H
      exact absurd H (by simp)

/-! ### laws_markSourceS: function 16 -/
theorem hv_ne {W : World} {E : List Nat} {k t : Nat} {cs : Array Value} {fr : Nat × Nat} (h : ∃ q, q ∈ E ∧ ∃ cells, W.heap[k]? = some (.cells cells q (0, 0))) (hb : W.heap[k]? = some (.cells cs t fr)) (ht : t ∉ E) : False := by
 obtain ⟨q, hq, cells, hc⟩ := h
 rw [hc] at hb
 injection hb with hb
 injection hb with _ hb _
 exact ht (hb ▸ hq)
theorem hv_ne2 {W : World} {E : List Nat} {k t : Nat} {v : Value} (h : ∃ q, q ∈ E ∧ ∃ cells, W.heap[k]? = some (.cells cells q (0, 0))) (hT : ∀ k, v.ownBlock = some k → ∃ cells, W.heap[k]? = some (.cells cells t (0, 0))) (hk : some k = v.ownBlock) (ht : t ∉ E) : False := by
 obtain ⟨c, hc⟩ := hT k hk.symm
 exact hv_ne h hc ht
def hv_rows (k : Nat) : Nat → Int → Option Int
 | 0, a => some a
 | m + 1, a => (laws_markText.f k a).bind fun _ => hv_rows k m (wrap64 (wrap64 (a + 1) + 1))
theorem hv_rows_mono (k : Nat) : ∀ m a, LeO (hv_rows k m a) (hv_rows (k + 1) m a)
 | 0, _ => LeO.refl _
 | m + 1, a => by
  unfold hv_rows
  exact LeO.bind (laws_markText.mono _ _) (fun _ => hv_rows_mono k m _)
def laws_markSourceS.f (k : Nat) : List S75 → Int → Option Int
 | [], a => some a
 | x :: l, a => (laws_markText.f k a).bind fun _ => (hv_rows k x.f2.length (wrap64 (wrap64 (a + 1) + 1))).bind fun b => laws_markSourceS.f k l b
theorem laws_markSourceS.mono : ∀ (a0 : List S75) (a1 : Int) (k : Nat), LeO (laws_markSourceS.f k a0 a1) (laws_markSourceS.f (k + 1) a0 a1)
 | [], _, _ => LeO.refl _
 | x :: l, a, k => by
  unfold laws_markSourceS.f
  exact LeO.bind (laws_markText.mono _ _) (fun _ => LeO.bind (hv_rows_mono k _ _) (fun b => laws_markSourceS.mono l b k))
/-- Blocks keep their types and sizes; those outside S stay as they are. -/
def Hv (w w' : World) (S : Nat → Prop) : Prop := w.heap.size ≤ w'.heap.size ∧ ∀ k, k < w.heap.size → (¬ S k → w'.heap[k]? = w.heap[k]?) ∧ ∀ (cur : Array Value) (e : TypeId), w.heap[k]? = some (.cells cur e (0, 0)) → ∃ cur' : Array Value, w'.heap[k]? = some (.cells cur' e (0, 0)) ∧ cur'.size = cur.size
theorem Hv.refl (w : World) (S : Nat → Prop) : Hv w w S := ⟨Nat.le_refl _, fun k _ => ⟨fun _ => rfl, fun cur e h => ⟨cur, h, rfl⟩⟩⟩
theorem Hv.trans {w w1 w2 : World} {S T : Nat → Prop} (h : Hv w w1 S) (g : Hv w1 w2 T) (hT : ∀ k, k < w.heap.size → T k → S k) : Hv w w2 S :=
 ⟨Nat.le_trans h.1 g.1, fun k hk => ⟨fun hn => ((g.2 k (Nat.lt_of_lt_of_le hk h.1)).1 (fun ht => hn (hT k hk ht))).trans ((h.2 k hk).1 hn), fun cur e hc => by
  obtain ⟨c1, h1, s1⟩ := (h.2 k hk).2 cur e hc
  obtain ⟨c2, h2, s2⟩ := (g.2 k (Nat.lt_of_lt_of_le hk h.1)).2 c1 e h1
  exact ⟨c2, h2, s2.trans s1⟩⟩⟩
theorem Hv.below {w w1 w2 : World} {S : Nat → Prop} (h : Hv w w1 S) (hb : Below w1.heap.size w1 w2) : Hv w w2 S :=
 ⟨Nat.le_trans h.1 hb.size, fun k hk => by
  have e := hb.block k (Nat.lt_of_lt_of_le hk h.1)
  rw [e]
  exact h.2 k hk⟩
theorem hv_heap {w1 : World} {g o : Nat} {v : Value} {cur : Array Value} {e : TypeId} (hc : w1.heap[g]? = some (.cells cur e (0, 0))) : (w1.setCell ⟨g, o, none⟩ v).heap[g]? = some (.cells (cur.setIfInBounds o v) e (0, 0)) := by
 rw [setCell_eq_setRow w1 g o cur e (0, 0) v hc]
 exact setRow_heap w1 g cur _ e _ hc
theorem Hv.set {w w1 : World} {S : Nat → Prop} (h : Hv w w1 S) {g o : Nat} {v : Value} {cur : Array Value} {e : TypeId} (hc : w1.heap[g]? = some (.cells cur e (0, 0))) (hS : g < w.heap.size → S g) : Hv w (w1.setCell ⟨g, o, none⟩ v) S := by
 have hg : (w1.setCell ⟨g, o, none⟩ v).heap[g]? = some (.cells (cur.setIfInBounds o v) e (0, 0)) := by
  rw [setCell_eq_setRow w1 g o cur e (0, 0) v hc]
  exact setRow_heap w1 g cur _ e _ hc
 refine ⟨by have := h.1; simp only [World.setCell]; simpa using this, fun k hk => ?_⟩
 by_cases hk2 : k = g
 ·subst hk2
  refine ⟨fun hn => absurd (hS hk) hn, fun c0 e0 h0 => ?_⟩
  obtain ⟨c1, h1, s1⟩ := (h.2 k hk).2 c0 e0 h0
  rw [hc] at h1
  injection h1 with h1
  injection h1 with ha hb _
  subst ha; subst hb
  exact ⟨_, hg, by simpa using s1⟩
 ·rw [Below.heap_setCell w1 ⟨g, o, none⟩ v k hk2]
  exact h.2 k hk
theorem hv_cell {W : World} {g j : Nat} {cur : Array Value} {e : TypeId} (h : W.heap[g]? = some (.cells cur e (0, 0))) (hj : j < cur.size) : ∃ u, W.cell? ⟨g, j, none⟩ = some u ∧ W.frozen? ⟨g, j, none⟩ = false :=
 ⟨cur[j], by simp [World.cell?, h, hj], by simp [World.frozen?, h]⟩
/-- A slice of elements of some cells, of the call's own, as its value tells it. -/
def RawV (W : World) (base e sz m : Nat) (v : Value) : Prop := (v = .slice none 0 0 ∧ m = 0) ∨ ∃ g c cur, v = .slice (some ⟨g, 0, none⟩) m c ∧ base ≤ g ∧ W.heap[g]? = some (.cells cur e (0, 0)) ∧ m * sz ≤ cur.size
set_option maxHeartbeats 8000000 in
set_option maxRecDepth 100000 in
theorem hv_marks (k m : Nat) (v : Value) (a1 r1 : Int) (w0 w : World) (hB : Below w0.heap.size w0 w) (hv : RawV w w0.heap.size 76 2 m v) (hm : m ≤ maxLen) (h : hv_rows k m a1 = some r1) :
  Calls Try.prog 17 #[v, .int .i64 a1] w fun e w' => e = .returned (.int .i64 r1) ∧ Below w0.heap.size w0 w' ∧ Hv w w' (fun k_ => v.ownBlock = some k_) := by
 have hml : m ≤ 9223372036854775807 := hm
 obtain ⟨A, c, hvv⟩ : ∃ A c, v = .slice A m c := by
  rcases hv with ⟨rfl, rfl⟩ | ⟨g, c, cur, rfl, _⟩
  ·exact ⟨none, 0, rfl⟩
  ·exact ⟨_, c, rfl⟩
 subst hvv
 have HV := za hv
 have HM := za hml
 have HB0 := za hB
 have H0 := za h
 clear hv hm hml hB h
 go_enter Try.func17, Try.ntmps17
 go_wp2
 go_loopg [1, 5] m (fun kq v1 v5 w' => ∃ (x1_1 : Int) (x5_1 : Int), v1 = .int .i64 x1_1 ∧ v5 = .int .i64 x5_1 ∧ Aside0 (hv_rows k (m - x5_1.toNat) x1_1 = some r1) ∧ Aside0 (0 ≤ x5_1 ∧ x5_1 ≤ (m : Int) ∧ m - x5_1.toNat ≤ kq) ∧ Aside0 (Below w0.heap.size w0 w') ∧ Aside0 (Hv w w' (fun k_ => (Value.slice A m c).ownBlock = some k_)))
 case atStart => exact ⟨a1, 0, zG82, zG82, ⟨by simpa using H0.out⟩, ⟨by omega⟩, ⟨by repeat (first | (with_reducible first | exact HB0.out | apply zd | apply zb | apply zc) | exact HB0.out)⟩, ⟨by first | exact Hv.refl _ _ | exact (Hv.refl w _ : Hv w w _)⟩⟩
 case round =>
  obtain ⟨x1_1, x5_1, rfl, rfl, HA, HI, HB, HH⟩ := hrel
  by_cases c3 : x5_1 < (m : Int)
  ·have c3b0 : decide (x5_1 < (m : Int)) = true := decide_eq_true c3
   have c4b0 : decide (0 ≤ x5_1) = true := decide_eq_true HI.out.1
   obtain ⟨n, hn⟩ : ∃ n, m - x5_1.toNat = n + 1 := ⟨m - x5_1.toNat - 1, by have := HI.out; omega⟩
   have H := HA.out
   rw [hn, hv_rows] at H
   obtain ⟨t, A4, H⟩ := Option.bind_eq_some_iff.mp H
   have A4 := za A4
   have H' := za H
   have HN := za hn
   have C3 := za c3
   clear H HA hn
   obtain ⟨g, cur, hAc, hge, hcu, hsz⟩ : ∃ g cur, A = some ⟨g, 0, none⟩ ∧ w0.heap.size ≤ g ∧ w.heap[g]? = some (.cells cur 76 (0, 0)) ∧ m * 2 ≤ cur.size := by
    rcases HV.out with ⟨_, hm0⟩ | ⟨g, c', cur, he, h1, h2, h3⟩
    ·have := HI.out; omega
    ·injection he with he1 _ _
     exact ⟨g, cur, he1, h1, h2, h3⟩
   subst hAc
   have hlt : g < w.heap.size := (Array.getElem?_eq_some_iff.1 hcu).1
   obtain ⟨cur1, hcu1, hs1⟩ := (HH.out.2 g hlt).2 cur 76 hcu
   have HC1 := za hcu1
   have HS1 := za (show x5_1.toNat * 2 + 1 < cur1.size by have := HI.out; omega)
   have HGE := za hge
   clear hge hcu hsz hs1 hcu1 hlt
   have p5 : (0 ≤ x5_1) = True := eq_true HI.out.1
   have q5 : (x5_1 < (m : Int)) = True := eq_true c3
   clear c3
   go_wp2_with (first | ((with_reducible refine gate_callee (f := 49) rfl ?_); refine goesL_ (some 15) rfl rfl Try.func49 zG83 rfl #[.int .i64 x1_1] rfl (by (try simp only [List.map_toArray, List.map_cons, List.map_nil]); first | done | rfl) ?_; (with_reducible refine (laws_markText.calls k x1_1 t _ A4.out).mono ?_); rintro e w9 ⟨rfl, hb⟩; refine ⟨_, rfl, ?_⟩; have n0_ := za (zq zG72 hb); have n1_ := za (Hv.below HH.out hb); have n2_ := za ((hb.block g (Array.getElem?_eq_some_iff.1 HC1.out).1).trans HC1.out); clear HB HH HC1; have HB := n0_; have HH := n1_; have HC1 := n2_; clear n0_ n1_ n2_ hb; obtain ⟨ue0, hx6_0, hf6_0⟩ := hv_cell HC1.out (show x5_1.toNat * 2 < cur1.size by have := HS1.out; omega); obtain ⟨ue1, hx6_1, hf6_1⟩ := hv_cell HC1.out HS1.out))
   have hw5 : wrap64 (x5_1 + 1) = x5_1 + 1 := by have := HI.out; have := HM.out; have := C3.out; unfold wrap64; omega
   have HW5 := za hw5
   clear hw5
   go_roundg n
   case measure => have := HI.out; have := HN.out; omega
   case rel =>
    refine ⟨wrap64 (wrap64 (x1_1 + 1) + 1), wrap64 (x5_1 + 1), rfl, rfl, ⟨?_⟩, ⟨?_⟩, ⟨zf (zf HB.out HGE.out) HGE.out⟩, ⟨Hv.set (Hv.set HH.out HC1.out (fun _ => rfl)) (hv_heap HC1.out) (fun _ => rfl)⟩⟩
    ·rw [HW5.out, show m - (x5_1 + 1).toNat = n by have := HI.out; have := HN.out; omega]
     exact H'.out
    ·rw [HW5.out]
     have := HI.out; have := HN.out; have := C3.out
     exact ⟨by omega, by omega, by omega⟩
  ·have c3b0 : decide (x5_1 < (m : Int)) = false := decide_eq_false c3
   have hz : m - x5_1.toNat = 0 := by have := HI.out; omega
   have H := HA.out
   rw [hz, hv_rows] at H
   obtain rfl := Option.some.inj H
   clear H HA c3
   go_wp2
   go_ret
   exact ⟨by first | rfl | (simp; done), by repeat (first | (with_reducible first | exact HB.out | apply zd | apply zb | apply zc) | exact HB.out), HH.out⟩
theorem RawV.move {W W' : World} {base e sz m : Nat} {v : Value} {S : Nat → Prop} (h : RawV W base e sz m v) (g : Hv W W' S) : RawV W' base e sz m v := by
 rcases h with h | ⟨b, c, cur, rfl, hb, hc, hs⟩
 ·exact .inl h
 ·obtain ⟨cur', hc', hs'⟩ := (g.2 b (Array.getElem?_eq_some_iff.1 hc).1).2 cur e hc
  exact .inr ⟨b, c, cur', rfl, hb, hc', by omega⟩
theorem RawV.of_R {α : Type} {d : Kd α} {e base : Nat} {W : World} {ok : Nat → Prop} {v : Value} {xs : List α} (h : d.R e W base ok v xs) : RawV W base e d.sz xs.length v ∧ (xs.length ≤ maxLen) := by
 obtain ⟨inner, _, ho⟩ := Kd.R_own h
 rcases ho with ⟨rfl, h0⟩ | ⟨g, cap, cur, rfl, hb, hc, hn, hm, hs, _⟩
 ·exact ⟨.inl ⟨rfl, h0⟩, by rw [h0]; exact Nat.zero_le _⟩
 ·exact ⟨.inr ⟨g, cap, cur, rfl, hb, hc, by rw [hs]; exact Nat.mul_le_mul_right _ hn⟩, Nat.le_trans hn hm⟩
theorem hv_at {W : World} {g j : Nat} {cur : Array Value} {e : TypeId} (h : W.heap[g]? = some (.cells cur e (0, 0))) : W.cell? ⟨g, j, none⟩ = cur[j]? := by simp [World.cell?, h]
/-- The outer row, as it stands at W: its structs' slices are where they were. -/
def Out (W : World) (go : Nat) (curO : Array Value) : Prop := ∃ cur : Array Value, W.heap[go]? = some (.cells cur 75 (0, 0)) ∧ cur.size = curO.size ∧ ∀ i, cur[i * 3 + 2]? = curO[i * 3 + 2]?
theorem Out.set {W : World} {go i : Nat} {curO : Array Value} {v : Value} (h : Out W go curO) (j : Nat) (hj : j = i * 3 ∨ j = i * 3 + 1) : Out (W.setCell ⟨go, j, none⟩ v) go curO := by
 obtain ⟨cur, h1, h2, h3⟩ := h
 refine ⟨_, hv_heap h1, by simpa using h2, fun l => ?_⟩
 rw [Array.getElem?_setIfInBounds_ne (by omega)]
 exact h3 l
theorem Out.below {W W1 : World} {go : Nat} {curO : Array Value} (h : Out W go curO) (hb : Below W.heap.size W W1) : Out W1 go curO := by
 obtain ⟨cur, h1, h2⟩ := h
 exact ⟨cur, (hb.block go (Array.getElem?_eq_some_iff.1 h1).1).trans h1, h2⟩
theorem Out.hv {W W1 : World} {go : Nat} {curO : Array Value} {S : Nat → Prop} (h : Out W go curO) (hb : Hv W W1 S) (hn : ¬ S go) : Out W1 go curO := by
 obtain ⟨cur, h1, h2⟩ := h
 exact ⟨cur, ((hb.2 go (Array.getElem?_eq_some_iff.1 h1).1).1 hn).trans h1, h2⟩
theorem Kept.of_Hv {w w' : World} {S : Nat → Prop} (h : Hv w w' S) : Kept w w' S := ⟨h.1, fun k hk hn => (h.2 k hk).1 hn⟩
set_option maxHeartbeats 8000000 in
set_option maxRecDepth 100000 in
theorem laws_markSourceS.calls (k : Nat) (P0_ : Nat → Prop) (u9000_ : Value) (l0 : List (S75)) (a1 : Int) (r1 : Int) (w0 w : World) (hB : Below w0.heap.size w0 w) (ho0 : Kd.R k75 75 w w0.heap.size P0_ u9000_ l0) (h : laws_markSourceS.f k l0 a1 = some r1) :
  Calls Try.prog 16 #[u9000_, .int .i64 a1] w fun e w' => e = .returned (.int .i64 r1) ∧ Below w0.heap.size w0 w' ∧ Kept w w' (fun k_ => P0_ k_ ∧ ∃ q, q ∈ [75, 76] ∧ ∃ cells, w.heap[k_]? = some (.cells cells q (0, 0))) := by
 obtain ⟨A, c, hvv⟩ := zaf ho0
 subst hvv
 have hlen := (RawV.of_R ho0).2
 have hml : l0.length ≤ 9223372036854775807 := hlen
 have HM := za hml
 have HO := za ho0
 have HB0 := za hB
 have H0 := za h
 -- what the outer row is, where there is one
 have hout : 0 < l0.length → ∃ go curO, A = some ⟨go, 0, none⟩ ∧ w0.heap.size ≤ go ∧ P0_ go ∧ w.heap[go]? = some (.cells curO 75 (0, 0)) ∧ l0.length * 3 ≤ curO.size ∧
   ∀ (i : Nat) x, l0[i]? = some x → ∃ v, curO[i * 3 + 2]? = some v ∧ RawV w w0.heap.size 76 2 x.f2.length v ∧ x.f2.length ≤ maxLen ∧ ∀ k_, v.ownBlock = some k_ → k_ ≠ go ∧ P0_ k_ ∧ ∃ cells, w.heap[k_]? = some (.cells cells 76 (0, 0)) := by
  intro hp
  obtain ⟨go, cap, he, hge, hlt, cells, hcells⟩ := zbj ho0 hp
  injection he with he1 _ he3
  subst he1; subst he3
  have hsz : l0.length * 3 ≤ cells.size := by
   rcases (RawV.of_R ho0).1 with ⟨hz, _⟩ | ⟨g, c', cur, hz, _, hc, hs⟩
   ·simp at hz
   ·injection hz with hz1 _ _
    injection hz1 with hz2
    injection hz2 with hz3
    subst hz3
    rw [hcells] at hc
    injection hc with hc
    injection hc with hc1
    subst hc1
    exact hs
  refine ⟨go, cells, rfl, hge, ho0.1 go rfl, hcells, hsz, fun i x hx => ?_⟩
  have hi : i < l0.length := (List.getElem?_eq_some_iff.1 hx).1
  obtain ⟨ce, hcl, hM, hcc, _⟩ := zbi ho0 z75 (i : Int) (by omega) (by omega)
  have hgx : l0.getD (i : Int).toNat z75 = x := by rw [Int.toNat_natCast, List.getD_eq_getElem?_getD, hx]; rfl
  rw [hgx] at hM
  obtain ⟨v, rfl, hR⟩ := k75_openM hM
  have h2 := hcc 2 v rfl
  rw [Int.toNat_natCast] at h2
  have h2' : w.cell? ⟨go, i * 3 + 2, none⟩ = some v := h2
  rw [hv_at hcells] at h2'
  refine ⟨v, h2', (RawV.of_R hR).1, (RawV.of_R hR).2, fun k_ hk_ => ?_⟩
  have h3 := hR.1 k_ hk_
  exact ⟨h3.2, h3.1, zar hR k_ hk_⟩
 have HOUT := za hout
 clear hout hlen hml ho0 hB h
 go_enter Try.func16, Try.ntmps16
 go_wp2
 go_loopg [1, 5] l0.length (fun kq v1 v5 w' => ∃ (x1_1 : Int) (x5_1 : Int), v1 = .int .i64 x1_1 ∧ v5 = .int .i64 x5_1 ∧ Aside0 (laws_markSourceS.f k (l0.drop x5_1.toNat) x1_1 = some r1) ∧ Aside0 (0 ≤ x5_1 ∧ x5_1 ≤ (l0.length : Int) ∧ l0.length - x5_1.toNat ≤ kq) ∧ Aside0 (Below w0.heap.size w0 w') ∧ Aside0 (Hv w w' (fun k_ => P0_ k_ ∧ ∃ q, q ∈ [75, 76] ∧ ∃ cells, w.heap[k_]? = some (.cells cells q (0, 0)))) ∧ Aside0 (∀ go curO, A = some ⟨go, 0, none⟩ → w.heap[go]? = some (.cells curO 75 (0, 0)) → Out w' go curO))
 case atStart => exact ⟨a1, 0, zG82, zG82, ⟨by simpa using H0.out⟩, ⟨by omega⟩, ⟨by repeat (first | (with_reducible first | exact HB0.out | apply zd | apply zb | apply zc) | exact HB0.out)⟩, ⟨Hv.refl w _⟩, ⟨fun go curO _ hc => ⟨curO, hc, rfl, fun _ => rfl⟩⟩⟩
 case round =>
  obtain ⟨x1_1, x5_1, rfl, rfl, HA, HI, HB, HH, HU⟩ := hrel
  by_cases c3 : x5_1 < (l0.length : Int)
  ·have c3b0 : decide (x5_1 < (l0.length : Int)) = true := decide_eq_true c3
   have c4b0 : decide (0 ≤ x5_1) = true := decide_eq_true HI.out.1
   have hi : x5_1.toNat < l0.length := by have := HI.out; omega
   have hd := List.drop_eq_getElem_cons hi
   have hx : l0[x5_1.toNat]? = some l0[x5_1.toNat] := List.getElem?_eq_getElem hi
   generalize l0[x5_1.toNat] = x at hd hx
   have H := HA.out
   rw [hd, laws_markSourceS.f] at H
   obtain ⟨t, A4, H⟩ := Option.bind_eq_some_iff.mp H
   obtain ⟨b, A5, H⟩ := Option.bind_eq_some_iff.mp H
   have A4 := za A4
   have A5 := za A5
   have H' := za H
   have C3 := za c3
   clear H HA hd
   obtain ⟨go, curO, hA, hge, hPg, hcu, hsz, hkids⟩ := HOUT.out (by omega)
   subst hA
   obtain ⟨v2, hv2, hraw, hvm, hvk⟩ := hkids x5_1.toNat x hx
   have HU0 := za (HU.out go curO rfl hcu)
   have HS1 := za (show x5_1.toNat * 3 + 2 < curO.size by omega)
   have HGE := za hge
   have HPG := za (show P0_ go ∧ ∃ q, q ∈ [75, 76] ∧ ∃ cells, w.heap[go]? = some (.cells cells q (0, 0)) from ⟨hPg, 75, by simp, curO, hcu⟩)
   have HV2 := za hv2
   have HRAW := za hraw
   have HVM := za hvm
   have HVK := za hvk
   have HCU := za hcu
   clear hge hcu hsz hkids hv2 hraw hvm hvk hPg hi hx
   have p5 : (0 ≤ x5_1) = True := eq_true HI.out.1
   have q5 : (x5_1 < (l0.length : Int)) = True := eq_true c3
   clear c3 HU
   go_wp2_with (first | ((with_reducible refine gate_callee (f := 49) rfl ?_); refine goesL_ (some 15) rfl rfl Try.func49 zG83 rfl #[.int .i64 x1_1] rfl (by (try simp only [List.map_toArray, List.map_cons, List.map_nil]); first | done | rfl) ?_; (with_reducible refine (laws_markText.calls k x1_1 t _ A4.out).mono ?_); rintro e w9 ⟨rfl, hb⟩; refine ⟨_, rfl, ?_⟩; have n0_ := za (zq zG72 hb); have n1_ := za (Hv.below HH.out hb); have n2_ := za (Out.below HU0.out hb); clear HB HH HU0; have HB := n0_; have HH := n1_; have HU0 := n2_; clear n0_ n1_ n2_ hb; obtain ⟨cur9, hc9, hs9, hk9⟩ := HU0.out; have HC9 := za hc9; obtain ⟨ue0, hx6_0, hf6_0⟩ := hv_cell hc9 (show x5_1.toNat * 3 < cur9.size by have := HS1.out; omega); obtain ⟨ue1, hx6_1, hf6_1⟩ := hv_cell hc9 (show x5_1.toNat * 3 + 1 < cur9.size by have := HS1.out; omega); have hx6_2 : w9.cell? ⟨go, x5_1.toNat * 3 + 2, none⟩ = some v2 := (hv_at hc9).trans ((hk9 _).trans HV2.out); clear hc9 hs9 hk9) | ((with_reducible refine gate_callee (f := 17) rfl ?_); refine goesL_ (some 33) rfl rfl Try.func17 zG83 rfl #[v2, .int .i64 (wrap64 (wrap64 (x1_1 + 1) + 1))] rfl (by (try simp only [List.map_toArray, List.map_cons, List.map_nil]); first | done | rfl) ?_; have n3_ := za (Hv.set (v := .int .i64 (wrap64 (x1_1 + 1))) (o := x5_1.toNat * 3 + 1) (Hv.set (v := .string t) (o := x5_1.toNat * 3) HH.out HC9.out (fun _ => HPG.out)) (hv_heap HC9.out) (fun _ => HPG.out)); refine (hv_marks k x.f2.length v2 _ b w0 _ (zf (zf HB.out HGE.out) HGE.out) (RawV.move HRAW.out n3_.out) HVM.out A5.out).mono ?_; rintro e w12 ⟨rfl, hb, hv12⟩; refine ⟨_, rfl, ?_⟩; have n0_ := za hb; have n1_ := za (Hv.trans n3_.out hv12 (fun k_ _ ht => ⟨(HVK.out k_ ht).2.1, 76, by simp, (HVK.out k_ ht).2.2⟩)); have n2_ := za (Out.hv (Out.set (v := .int .i64 (wrap64 (x1_1 + 1))) (Out.set (v := .string t) HU0.out (i := x5_1.toNat) _ (.inl rfl)) (i := x5_1.toNat) _ (.inr rfl)) hv12 (fun e_ => (HVK.out go e_).1 rfl)); clear HB HH HU0; have HB := n0_; have HH := n1_; have HU0 := n2_; clear n0_ n1_ n2_ n3_ hb hv12))
   have HW5 := za (show wrap64 (x5_1 + 1) = x5_1 + 1 by have := HI.out; have := HM.out; have := C3.out; unfold wrap64; omega)
   go_roundg (l0.length - x5_1.toNat - 1)
   case measure => have := HI.out; have := C3.out; omega
   case rel =>
    refine ⟨b, wrap64 (x5_1 + 1), rfl, rfl, ⟨?_⟩, ⟨?_⟩, ⟨HB.out⟩, ⟨HH.out⟩, ⟨fun go' curO' hg hc => ?_⟩⟩
    ·rw [HW5.out, show (x5_1 + 1).toNat = x5_1.toNat + 1 by have := HI.out; omega]
     exact H'.out
    ·rw [HW5.out]
     have := HI.out; have := C3.out
     exact ⟨by omega, by omega, by omega⟩
    ·injection hg with hg1
     injection hg1 with hg2
     subst hg2
     have hh := HCU.out
     rw [hc] at hh
     injection hh with hh
     injection hh with hh1
     subst hh1
     exact HU0.out
  ·have c3b0 : decide (x5_1 < (l0.length : Int)) = false := decide_eq_false c3
   have hz : l0.drop x5_1.toNat = [] := List.drop_eq_nil_of_le (by have := HI.out; omega)
   have H := HA.out
   rw [hz, laws_markSourceS.f] at H
   obtain rfl := Option.some.inj H
   clear H HA c3
   go_wp2
   go_ret
   exact ⟨by first | rfl | (simp; done), by repeat (first | (with_reducible first | exact HB.out | apply zd | apply zb | apply zc) | exact HB.out), Kept.of_Hv HH.out⟩


/-! ### laws_markStockedS: function 17 -/
def laws_markStockedS.l0 : Nat → List (S76) → Int → Int → Option (Int × (List (S76)))
 | 0, _, _, _ => none
 | k + 1, x0, x1, x5 => if x5 < (x0.length : Int) then ((laws_markText.f k x1).bind fun t286 => (if 0 ≤ x5 then ((some (x0.set (x5 : Int).toNat (⟨t286, (rd_T76 x0 x5).f1⟩ : S76) : List (S76))).bind fun y287 => (laws_markStockedS.l0 k (y287.set (x5 : Int).toNat (⟨(rd_T76 y287 x5).f0, wrap64 (x1 + 1)⟩ : S76)) (wrap64 ((wrap64 (x1 + 1)) + 1)) (wrap64 (x5 + 1)))) else (none))) else (some (x1, x0))
def laws_markStockedS.f (k : Nat) (l0 : List (S76)) (a1 : Int) : Option (Int × (List (S76))) := laws_markStockedS.l0 k l0 a1 0
theorem laws_markStockedS.mono_l : ∀ k, (∀ y0 y1 y2, LeO (laws_markStockedS.l0 k y0 y1 y2) (laws_markStockedS.l0 (k + 1) y0 y1 y2))
 | 0 => fun _ _ _ r h => by simp [laws_markStockedS.l0] at h
 | k + 1 => by
  have ih0 := laws_markStockedS.mono_l k
  ·intro y0 y1 y2
   unfold laws_markStockedS.l0
   repeat' first
   | (with_reducible exact ih0 _ _ _)
   | (with_reducible exact laws_markText.mono _ _)
   | (with_reducible exact LeO.refl _)
   | (with_reducible exact LeO.none _)
   | (with_reducible refine LeO.ite ?_ ?_)
   | (with_reducible refine LeO.bind ?_ (fun _ => ?_))
   | exact ih0 _ _ _
   | exact laws_markText.mono _ _
   | exact LeO.none _
   | refine LeO.ite ?_ ?_
   | refine LeO.bind ?_ (fun _ => ?_)
theorem laws_markStockedS.mono : ∀ a0 a1 k, LeO (laws_markStockedS.f k a0 a1) (laws_markStockedS.f (k + 1) a0 a1) := by
 intro a0 a1 k
 have ih0 := laws_markStockedS.mono_l k
 unfold laws_markStockedS.f
 repeat' first
   | (with_reducible exact ih0 _ _ _)
   | (with_reducible exact laws_markText.mono _ _)
   | (with_reducible exact LeO.refl _)
   | (with_reducible exact LeO.none _)
   | (with_reducible refine LeO.ite ?_ ?_)
   | (with_reducible refine LeO.bind ?_ (fun _ => ?_))
   | exact ih0 _ _ _
   | exact laws_markText.mono _ _
   | exact LeO.none _
   | refine LeO.ite ?_ ?_
   | refine LeO.bind ?_ (fun _ => ?_)
set_option maxHeartbeats 8000000 in
set_option maxRecDepth 100000 in
theorem laws_markStockedS.calls (k : Nat) (P0_ : Nat → Prop) (u9000_ : Value) (l0 : List (S76)) (a1 : Int) (r1 : Int) (r2 : List (S76)) (w0 w : World) (hB : Below w0.heap.size w0 w) (ho0 : Kd.R k76 76 w w0.heap.size P0_ u9000_ l0) (h : laws_markStockedS.f k l0 a1 = some (r1, r2)) :
  Calls Try.prog 17 #[u9000_, .int .i64 a1] w fun e w' => e = .returned (.int .i64 r1) ∧ Kd.R k76 76 w' w0.heap.size (fun k_ => (P0_ k_ ∨ w.heap.size ≤ k_)) u9000_ r2 ∧ Below w0.heap.size w0 w' ∧ Kept w w' (fun k_ => P0_ k_) := by
 have HO0 := za (show Kd.R k76 76 w w0.heap.size (fun k_ => (P0_ k_ ∨ w.heap.size ≤ k_)) u9000_ l0 from zx ho0 (fun k_ hk => (.inl hk)))
 have HK := za (Kept.refl w (fun k_ => P0_ k_))
 have HW0 := za hB.size
 have HB := za hB
 clear hB
 have H : (laws_markStockedS.l0 k l0 a1 0) = some (r1, r2) := h
 clear h
 have H' := za H
 clear H
 go_enter Try.func17, Try.ntmps17
 go_wp2
 go_loopg [1, 5] k (fun kq v1 v5 w' => ∃ (x0_1 : List (S76)) (x1_1 : Int) (x5_1 : Int), v1 = .int .i64 x1_1 ∧ v5 = .int .i64 x5_1 ∧ Aside0 (laws_markStockedS.l0 kq x0_1 x1_1 x5_1 = some (r1, r2)) ∧ Aside0 (kq ≤ k) ∧ Aside0 (Kd.R k76 76 w' w0.heap.size (fun k_ => (P0_ k_ ∨ w.heap.size ≤ k_)) u9000_ x0_1) ∧ Aside0 (Kept w w' (fun k_ => P0_ k_)) ∧ Aside0 (Below w0.heap.size w0 w'))
 case atStart => exact ⟨(l0), (a1), (0), zG82, zG82, H', ⟨Nat.le_refl _⟩, ⟨by (with_reducible repeat (first | apply zk | apply zl | apply zn)); exact HO0.out⟩, ⟨by repeat (first | (with_reducible first | exact HK.out | apply Kept.alloc | apply Kept.drewN | apply Kept.drew) | exact HK.out)⟩, ⟨by repeat (first | (with_reducible first | exact HB.out | apply zd | apply zb | apply zc) | exact HB.out)⟩⟩
 case round =>
  clear H'
  try clear c1
  try clear p2
  obtain ⟨x0_1, x1_1, x5_1, rfl, rfl, HA, HK1, HO_0, HK, HB⟩ := hrel
  cases gk with
  | zero => exact absurd HA.out (by simp [laws_markStockedS.l0])
  | succ k1 =>
   have H := HA.out
   clear HA
   simp only [laws_markStockedS.l0] at H
   by_cases c3 : x5_1 < (x0_1.length : Int)
   ·rw [if_pos c3] at H
    have c3b0 : decide (x5_1 < (x0_1.length : Int)) = true := decide_eq_true c3
    clear c3
    replace H := Option.bind_eq_some_iff.mp H
    obtain ⟨t286, A40, H⟩ := H
    replace H : (if 0 ≤ x5_1 then ((some (x0_1.set (x5_1 : Int).toNat (⟨t286, (rd_T76 x0_1 x5_1).f1⟩ : S76) : List (S76))).bind fun y287 => (laws_markStockedS.l0 k1 (y287.set (x5_1 : Int).toNat (⟨(rd_T76 y287 x5_1).f0, wrap64 (x1_1 + 1)⟩ : S76)) (wrap64 ((wrap64 (x1_1 + 1)) + 1)) (wrap64 (x5_1 + 1)))) else (none)) = some (r1, r2) := H
    have A4 := za A40
    clear A40
    by_cases c5 : 0 ≤ x5_1
    ·rw [if_pos c5] at H
     have c5b0 : decide (0 ≤ x5_1) = true := decide_eq_true c5
     clear c5
     obtain ⟨y287, hy287⟩ : ∃ y_ : List (S76), y_ = (x0_1.set (x5_1 : Int).toNat (⟨t286, (rd_T76 x0_1 x5_1).f1⟩ : S76)) := ⟨_, rfl⟩
     replace H : (laws_markStockedS.l0 k1 (y287.set (x5_1 : Int).toNat (⟨(rd_T76 y287 x5_1).f0, wrap64 (x1_1 + 1)⟩ : S76)) (wrap64 ((wrap64 (x1_1 + 1)) + 1)) (wrap64 (x5_1 + 1))) = some (r1, r2) := by first | (rw [hy287]; with_reducible exact H) | (have H2_ := (Option.bind_some _ _).symm.trans H; rw [hy287]; with_reducible exact H2_) | (have H2_ := (Option.bind_some _ _).symm.trans H; with_reducible exact H2_) | with_reducible exact H | (rw [hy287]; exact H) | exact H
     have Ny287 := za hy287
     clear hy287
     obtain ⟨y288, hy288⟩ : ∃ y_ : List (S76), y_ = (y287.set (x5_1 : Int).toNat (⟨(rd_T76 y287 x5_1).f0, wrap64 (x1_1 + 1)⟩ : S76)) := ⟨_, rfl⟩
     replace H : (laws_markStockedS.l0 k1 y288 (wrap64 ((wrap64 (x1_1 + 1)) + 1)) (wrap64 (x5_1 + 1))) = some (r1, r2) := by first | (rw [hy288]; with_reducible exact H) | (have H2_ := (Option.bind_some _ _).symm.trans H; rw [hy288]; with_reducible exact H2_) | (have H2_ := (Option.bind_some _ _).symm.trans H; with_reducible exact H2_) | with_reducible exact H | (rw [hy288]; exact H) | exact H
     have Ny288 := za hy288
     clear hy288
     have H' := za H
     clear H
     obtain ⟨Ao8, co8, eo8⟩ := zaf HO_0.out
     subst eo8
     go_wp2_with (first | ((with_reducible refine gate_callee (f := 49) rfl ?_); refine goesL_ (some 15) rfl rfl Try.func49 zG83 rfl #[.int .i64 x1_1] rfl zG67 ?_; (with_reducible refine (laws_markText.calls k1 x1_1 t286 _ A4.out).mono ?_); rintro e w9 ⟨rfl, hb⟩; refine ⟨_, rfl, ?_⟩; have n0_ := za (zp (by (with_reducible repeat (first | apply zk | apply zl | apply zn)); exact HO_0.out) hb); have n1_ := za (Kept.below (S := (fun k_ => P0_ k_)) (by repeat (first | (with_reducible first | exact HK.out | apply Kept.alloc | apply Kept.drewN | apply Kept.drew) | exact HK.out)) hb); have n2_ := za (zq zG72 hb); clear HO_0; clear HK; clear HB; have HO_0 := n0_; have HK := n1_; have HB := n2_; clear n0_ n1_ n2_; (try clear hb); (try clear hb2); (try clear hk); (try clear hi); have p6 : 0 ≤ (x5_1 : Int) := zO; have q6 : (x5_1 : Int) < ((x0_1.length : Int) : Int) := zO; obtain ⟨go6, co6, eo6, gb6, gl6, cl6, HG6⟩ := zbj HO_0.out (by omega); (first | cases eo6 | (injection eo6 with ea_ en_ ec_; (first | subst ea_ | (injection ea_ with ea_; subst ea_)); subst ec_; clear en_)); have GB6 := za gb6; have GG6 := za HG6; clear gb6 gl6 HG6; have HMgo6 := za (show (P0_ go6 ∨ w.heap.size ≤ go6) from (HO_0.out.1 _ rfl)); obtain ⟨ce6, hcl6, hM6, hcc6, hfr6⟩ := zbi HO_0.out z76 (x5_1 : Int) p6 q6; obtain rfl := k76_openM hM6; have hx6_0 : w9.cell? ⟨go6, (x5_1 : Int).toNat * 2, none⟩ = some (.string ((rd_T76 x0_1 x5_1).f0)) := hcc6 0 _ rfl; have hx6_1 : w9.cell? ⟨go6, (x5_1 : Int).toNat * 2 + 1, none⟩ = some (.int .i64 ((rd_T76 x0_1 x5_1).f1)) := hcc6 1 _ rfl; have hf6_0 : w9.frozen? ⟨go6, (x5_1 : Int).toNat * 2, none⟩ = false := hfr6 0; have hf6_1 : w9.frozen? ⟨go6, (x5_1 : Int).toNat * 2 + 1, none⟩ = false := hfr6 1; clear hcl6 hcc6 hfr6 hM6; replace p6 := eq_true p6; replace q6 := eq_true q6; have HX10 := za (show Kd.R k76 76 w9 w0.heap.size (fun k_ => (P0_ k_ ∨ w.heap.size ≤ k_)) (.slice (some ⟨go6, 0, none⟩) x0_1.length co8) x0_1 from (by (with_reducible repeat (first | apply zk | apply zl | apply zn)); exact HO_0.out)); obtain ⟨ce10, hcl10, hM10, hcc10, hfr10⟩ := zbi HX10.out z76 (x5_1 : Int) zO (by have h_ : (x5_1 : Int) < ((x0_1.length : Int) : Int) := zO; first | exact h_ | (have e_ := (Kd.R_reads' HO_0.out).1; omega) | simpa using h_); obtain rfl := k76_openM hM10; have HP10 := Kd.R_seg HX10.out (x5_1 : Int) zO (by have h_ : (x5_1 : Int) < ((x0_1.length : Int) : Int) := zO; first | exact h_ | (have e_ := (Kd.R_reads' HO_0.out).1; omega) | simpa using h_) (seg := [.string t286]) (j := 0) hcl10 hcc10 (show 1 ≤ 2 from by decide) (x' := (⟨t286, (rd_T76 x0_1 x5_1).f1⟩ : S76)) (k76_mkM _ _ _ (⟨t286, (rd_T76 x0_1 x5_1).f1⟩ : S76) ) (fun _ hk => hk); have hx10_0 := hcc10 0 _ rfl; (try simp only [show (k76).sz = 2 from rfl, Nat.mul_one, Nat.add_zero] at hx10_0); have hf10_0 := hfr10 0; (try simp only [show (k76).sz = 2 from rfl, Nat.mul_one, Nat.add_zero] at hf10_0); clear hcl10 hcc10 hfr10 hM10) | ((with_reducible refine gate_store (t := 9) (p := 17) rfl ?_); refine store_event (t := 9) (p := 17) (v := ?vo_w11) (w1 := (w9.setCell ⟨go6, (x5_1 : Int).toNat * 2, none⟩ (.string t286))) ?hg ?ho ?hn ?hr ?_; (case ho => rfl); (case hg => rfl); (case hn => rfl); (case hr => first | (go_simp; done) | (go_simp; rfl)); intro w11 hw; have hg : w9.grownBy w11 (some go6) := (by rw [hw]; exact HP10.2); have hp_ : Kd.R k76 76 w11 w0.heap.size (fun k_ => (P0_ k_ ∨ w.heap.size ≤ k_)) (.slice (some ⟨go6, 0, none⟩) x0_1.length co8) y287 := (by rw [hw, Ny287.out]; exact HP10.1); clear HP10; have n0_ := za (hp_); have n1_ := za ((by rw [hw]; exact zf (HB.out) GB6.out : Below w0.heap.size w0 w11)); have n2_ := za (Kept.of_grown (S := (fun k_ => P0_ k_)) hg (by repeat (first | (with_reducible first | exact HK.out | apply Kept.alloc | apply Kept.drewN | apply Kept.drew) | exact HK.out)) (fun k_ e_ => (HO_0.out.1 k_ e_))); clear HO_0; clear HB; clear HK; have HO_0 := n0_; have HB := n1_; have HK := n2_; clear n0_ n1_ n2_; clear hg hw hp_; have p7 : 0 ≤ (x5_1 : Int) := zO; have q7 : (x5_1 : Int) < ((x0_1.length : Int) : Int) := zO; obtain ⟨ce7, hcl7, hM7, hcc7, hfr7⟩ := zbi HO_0.out z76 (x5_1 : Int) p7 q7; obtain rfl := k76_openM hM7; have hx7_0 : w11.cell? ⟨go6, (x5_1 : Int).toNat * 2, none⟩ = some (.string ((rd_T76 y287 x5_1).f0)) := hcc7 0 _ rfl; have hx7_1 : w11.cell? ⟨go6, (x5_1 : Int).toNat * 2 + 1, none⟩ = some (.int .i64 ((rd_T76 y287 x5_1).f1)) := hcc7 1 _ rfl; have hf7_0 : w11.frozen? ⟨go6, (x5_1 : Int).toNat * 2, none⟩ = false := hfr7 0; have hf7_1 : w11.frozen? ⟨go6, (x5_1 : Int).toNat * 2 + 1, none⟩ = false := hfr7 1; clear hcl7 hcc7 hfr7 hM7; replace p7 := eq_true p7; replace q7 := eq_true q7; have HX12 := za (show Kd.R k76 76 w11 w0.heap.size (fun k_ => (P0_ k_ ∨ w.heap.size ≤ k_)) (.slice (some ⟨go6, 0, none⟩) x0_1.length co8) y287 from (by (with_reducible repeat (first | apply zk | apply zl | apply zn)); exact HO_0.out)); obtain ⟨ce12, hcl12, hM12, hcc12, hfr12⟩ := zbi HX12.out z76 (x5_1 : Int) zO (by have h_ : (x5_1 : Int) < ((x0_1.length : Int) : Int) := zO; first | exact h_ | (have e_ := (Kd.R_reads' HO_0.out).1; omega) | simpa using h_); obtain rfl := k76_openM hM12; have HP12 := Kd.R_seg HX12.out (x5_1 : Int) zO (by have h_ : (x5_1 : Int) < ((x0_1.length : Int) : Int) := zO; first | exact h_ | (have e_ := (Kd.R_reads' HO_0.out).1; omega) | simpa using h_) (seg := [.int .i64 (wrap64 (x1_1 + 1))]) (j := 1) hcl12 hcc12 (show 2 ≤ 2 from by decide) (x' := (⟨(rd_T76 y287 x5_1).f0, wrap64 (x1_1 + 1)⟩ : S76)) (k76_mkM _ _ _ (⟨(rd_T76 y287 x5_1).f0, wrap64 (x1_1 + 1)⟩ : S76) ) (fun _ hk => hk); have hx12_1 := hcc12 1 _ rfl; (try simp only [show (k76).sz = 2 from rfl, Nat.mul_one, Nat.add_zero] at hx12_1); have hf12_1 := hfr12 1; (try simp only [show (k76).sz = 2 from rfl, Nat.mul_one, Nat.add_zero] at hf12_1); clear hcl12 hcc12 hfr12 hM12) | ((with_reducible refine gate_store (t := 3) (p := 24) rfl ?_); refine store_event (t := 3) (p := 24) (v := ?vo_w13) (w1 := (w11.setCell ⟨go6, (x5_1 : Int).toNat * 2 + 1, none⟩ (.int .i64 (wrap64 (x1_1 + 1))))) ?hg ?ho ?hn ?hr ?_; (case ho => rfl); (case hg => rfl); (case hn => rfl); (case hr => first | (go_simp; done) | (go_simp; rfl)); intro w13 hw; have hg : w11.grownBy w13 (some go6) := (by rw [hw]; exact HP12.2); have hp_ : Kd.R k76 76 w13 w0.heap.size (fun k_ => (P0_ k_ ∨ w.heap.size ≤ k_)) (.slice (some ⟨go6, 0, none⟩) x0_1.length co8) y288 := (by rw [hw, Ny288.out]; exact HP12.1); clear HP12; have n0_ := za (hp_); have n1_ := za ((by rw [hw]; exact zf (HB.out) GB6.out : Below w0.heap.size w0 w13)); have n2_ := za (Kept.of_grown (S := (fun k_ => P0_ k_)) hg (by repeat (first | (with_reducible first | exact HK.out | apply Kept.alloc | apply Kept.drewN | apply Kept.drew) | exact HK.out)) (fun k_ e_ => (HO_0.out.1 k_ e_))); clear HO_0; clear HB; clear HK; have HO_0 := n0_; have HB := n1_; have HK := n2_; clear n0_ n1_ n2_; clear hg hw hp_))
     go_roundg k1
     case measure => have := HK1.out; omega
     case rel => exact ⟨(y288), (wrap64 ((wrap64 (x1_1 + 1)) + 1)), (wrap64 (x5_1 + 1)), zG82, zG82, H', ⟨by have := HK1.out; omega⟩, ⟨by (with_reducible repeat (first | apply zk | apply zl | apply zn)); exact HO_0.out⟩, ⟨by repeat (first | (with_reducible first | exact HK.out | apply Kept.alloc | apply Kept.drewN | apply Kept.drew) | exact HK.out)⟩, ⟨by repeat (first | (with_reducible first | exact HB.out | apply zd | apply zb | apply zc) | exact HB.out)⟩⟩
    ·rw [if_neg c5] at H
     exact absurd H (by simp)
   ·rw [if_neg c3] at H
    have c3b0 : decide (x5_1 < (x0_1.length : Int)) = false := decide_eq_false c3
    clear c3
    simp only [Option.some.injEq, Prod.mk.injEq] at H
    obtain ⟨rfl, rfl⟩ := H
    obtain ⟨Ao14, co14, eo14⟩ := zaf HO_0.out
    subst eo14
    go_wp2
    go_ret
    exact ⟨by first | rfl | (simp [errW_none, errW_some] <;> rfl) | (simp [*, errW_none, errW_some] <;> rfl), by (with_reducible repeat (first | apply zk | apply zl | apply zn)); exact HO_0.out, by repeat (first | (with_reducible first | exact HB.out | apply zd | apply zb | apply zc) | exact HB.out), by repeat (first | (with_reducible first | exact HK.out | apply Kept.alloc | apply Kept.drewN | apply Kept.drew) | exact HK.out)⟩

/-! ### laws_markIntS: function 18 -/
def laws_markIntS.l0 : Nat → List Int → Int → Int → Option (Int × List Int)
 | 0, _, _, _ => none
 | k + 1, x0, x1, x5 => if x5 < (x0.length : Int) then (if 0 ≤ x5 then (laws_markIntS.l0 k (x0.set (x5 : Int).toNat x1) (wrap64 (x1 + 1)) (wrap64 (x5 + 1))) else (none)) else (some (x1, x0))
def laws_markIntS.f (k : Nat) (l0 : List Int) (a1 : Int) : Option (Int × List Int) := laws_markIntS.l0 k l0 a1 0
theorem laws_markIntS.mono_l : ∀ k, (∀ y0 y1 y2, LeO (laws_markIntS.l0 k y0 y1 y2) (laws_markIntS.l0 (k + 1) y0 y1 y2))
 | 0 => fun _ _ _ r h => by simp [laws_markIntS.l0] at h
 | k + 1 => by
  have ih0 := laws_markIntS.mono_l k
  ·intro y0 y1 y2
   unfold laws_markIntS.l0
   repeat' first
   | (with_reducible exact ih0 _ _ _)
   | (with_reducible exact LeO.refl _)
   | (with_reducible exact LeO.none _)
   | (with_reducible refine LeO.ite ?_ ?_)
   | (with_reducible refine LeO.bind ?_ (fun _ => ?_))
   | exact ih0 _ _ _
   | exact LeO.none _
   | refine LeO.ite ?_ ?_
   | refine LeO.bind ?_ (fun _ => ?_)
theorem laws_markIntS.mono : ∀ a0 a1 k, LeO (laws_markIntS.f k a0 a1) (laws_markIntS.f (k + 1) a0 a1) := by
 intro a0 a1 k
 have ih0 := laws_markIntS.mono_l k
 unfold laws_markIntS.f
 repeat' first
   | (with_reducible exact ih0 _ _ _)
   | (with_reducible exact LeO.refl _)
   | (with_reducible exact LeO.none _)
   | (with_reducible refine LeO.ite ?_ ?_)
   | (with_reducible refine LeO.bind ?_ (fun _ => ?_))
   | exact ih0 _ _ _
   | exact LeO.none _
   | refine LeO.ite ?_ ?_
   | refine LeO.bind ?_ (fun _ => ?_)
set_option maxHeartbeats 8000000 in
set_option maxRecDepth 100000 in
theorem laws_markIntS.calls (k : Nat) (P0_ : Nat → Prop) (u9000_ : Value) (l0 : List Int) (a1 : Int) (r1 : Int) (r2 : List Int) (w0 w : World) (hB : Below w0.heap.size w0 w) (ho0 : Kd.R (Kd.int .i64) 3 w w0.heap.size P0_ u9000_ l0) (h : laws_markIntS.f k l0 a1 = some (r1, r2)) :
  Calls Try.prog 18 #[u9000_, .int .i64 a1] w fun e w' => e = .returned (.int .i64 r1) ∧ Kd.R (Kd.int .i64) 3 w' w0.heap.size (fun k_ => (P0_ k_ ∨ w.heap.size ≤ k_)) u9000_ r2 ∧ Below w0.heap.size w0 w' ∧ Kept w w' (fun k_ => P0_ k_) := by
 have HO0 := za (show Kd.R (Kd.int .i64) 3 w w0.heap.size (fun k_ => (P0_ k_ ∨ w.heap.size ≤ k_)) u9000_ l0 from zx ho0 (fun k_ hk => (.inl hk)))
 have HK := za (Kept.refl w (fun k_ => P0_ k_))
 have HW0 := za hB.size
 have HB := za hB
 clear hB
 have H : (laws_markIntS.l0 k l0 a1 0) = some (r1, r2) := h
 clear h
 have H' := za H
 clear H
 go_enter Try.func18, Try.ntmps18
 go_wp2
 go_loopg [1, 5] k (fun kq v1 v5 w' => ∃ (x0_1 : List Int) (x1_1 : Int) (x5_1 : Int), v1 = .int .i64 x1_1 ∧ v5 = .int .i64 x5_1 ∧ Aside0 (laws_markIntS.l0 kq x0_1 x1_1 x5_1 = some (r1, r2)) ∧ Aside0 (kq ≤ k) ∧ Aside0 (Kd.R (Kd.int .i64) 3 w' w0.heap.size (fun k_ => (P0_ k_ ∨ w.heap.size ≤ k_)) u9000_ x0_1) ∧ Aside0 (Kept w w' (fun k_ => P0_ k_)) ∧ Aside0 (Below w0.heap.size w0 w'))
 case atStart => exact ⟨(l0), (a1), (0), zG82, zG82, H', ⟨Nat.le_refl _⟩, ⟨by (with_reducible repeat (first | apply zk | apply zl | apply zn)); exact HO0.out⟩, ⟨by repeat (first | (with_reducible first | exact HK.out | apply Kept.alloc | apply Kept.drewN | apply Kept.drew) | exact HK.out)⟩, ⟨by repeat (first | (with_reducible first | exact HB.out | apply zd | apply zb | apply zc) | exact HB.out)⟩⟩
 case round =>
  clear H'
  try clear c1
  try clear p2
  obtain ⟨x0_1, x1_1, x5_1, rfl, rfl, HA, HK1, HO_0, HK, HB⟩ := hrel
  cases gk with
  | zero => exact absurd HA.out (by simp [laws_markIntS.l0])
  | succ k1 =>
   have H := HA.out
   clear HA
   simp only [laws_markIntS.l0] at H
   by_cases c3 : x5_1 < (x0_1.length : Int)
   ·rw [if_pos c3] at H
    have c3b0 : decide (x5_1 < (x0_1.length : Int)) = true := decide_eq_true c3
    clear c3
    by_cases c4 : 0 ≤ x5_1
    ·rw [if_pos c4] at H
     have c4b0 : decide (0 ≤ x5_1) = true := decide_eq_true c4
     clear c4
     obtain ⟨y289, hy289⟩ : ∃ y_ : List Int, y_ = (x0_1.set (x5_1 : Int).toNat x1_1) := ⟨_, rfl⟩
     replace H : (laws_markIntS.l0 k1 y289 (wrap64 (x1_1 + 1)) (wrap64 (x5_1 + 1))) = some (r1, r2) := by first | (rw [hy289]; with_reducible exact H) | (have H2_ := (Option.bind_some _ _).symm.trans H; rw [hy289]; with_reducible exact H2_) | (have H2_ := (Option.bind_some _ _).symm.trans H; with_reducible exact H2_) | with_reducible exact H | (rw [hy289]; exact H) | exact H
     have Ny289 := za hy289
     clear hy289
     have H' := za H
     clear H
     obtain ⟨Ao6, co6, eo6⟩ := zaf HO_0.out
     subst eo6
     have p5 : 0 ≤ (x5_1 : Int) := zO
     have q5 : (x5_1 : Int) < ((x0_1.length : Int) : Int) := zO
     obtain ⟨go5, co5, eo5, gb5, gl5, cl5, HG5⟩ := zbj HO_0.out (by omega)
     (first | cases eo5 | (injection eo5 with ea_ en_ ec_; (first | subst ea_ | (injection ea_ with ea_; subst ea_)); subst ec_; clear en_))
     have GB5 := za gb5
     have GG5 := za HG5
     clear gb5 gl5 HG5
     have HMgo5 := za (show (P0_ go5 ∨ w.heap.size ≤ go5) from (HO_0.out.1 _ rfl))
     obtain ⟨hx5_0, hf5_0⟩ := Kd.R_celln 0 HO_0.out (x5_1 : Int) p5 q5
     replace p5 := eq_true p5
     replace q5 := eq_true q5
     have HP7 := Kd.R_putg HO_0.out (x5_1 : Int) x1_1
     go_wp2_with (first | ((with_reducible refine gate_store (t := 3) (p := 15) rfl ?_); refine store_event (t := 3) (p := 15) (v := ?vo_w8) (w1 := (wr.setCell ⟨go5, (x5_1 : Int).toNat, none⟩ (.int .i64 x1_1))) ?hg ?ho ?hn ?hr ?_; (case ho => rfl); (case hg => rfl); (case hn => rfl); (case hr => first | (go_simp; done) | (go_simp; rfl)); intro w8 hw; have hg : wr.grownBy w8 (some go5) := (by rw [hw]; exact HP7.2); have hp_ : Kd.R (Kd.int .i64) 3 w8 w0.heap.size (fun k_ => (P0_ k_ ∨ w.heap.size ≤ k_)) (.slice (some ⟨go5, 0, none⟩) x0_1.length co6) y289 := (by rw [hw, Ny289.out]; exact HP7.1); clear HP7; have n0_ := za (hp_); have n1_ := za ((by rw [hw]; exact zf (HB.out) GB5.out : Below w0.heap.size w0 w8)); have n2_ := za (Kept.of_grown (S := (fun k_ => P0_ k_)) hg (by repeat (first | (with_reducible first | exact HK.out | apply Kept.alloc | apply Kept.drewN | apply Kept.drew) | exact HK.out)) (fun k_ e_ => (HO_0.out.1 k_ e_))); clear HO_0; clear HB; clear HK; have HO_0 := n0_; have HB := n1_; have HK := n2_; clear n0_ n1_ n2_; clear hg hw hp_))
     go_roundg k1
     case measure => have := HK1.out; omega
     case rel => exact ⟨(y289), (wrap64 (x1_1 + 1)), (wrap64 (x5_1 + 1)), zG82, zG82, H', ⟨by have := HK1.out; omega⟩, ⟨by (with_reducible repeat (first | apply zk | apply zl | apply zn)); exact HO_0.out⟩, ⟨by repeat (first | (with_reducible first | exact HK.out | apply Kept.alloc | apply Kept.drewN | apply Kept.drew) | exact HK.out)⟩, ⟨by repeat (first | (with_reducible first | exact HB.out | apply zd | apply zb | apply zc) | exact HB.out)⟩⟩
    ·rw [if_neg c4] at H
     exact absurd H (by simp)
   ·rw [if_neg c3] at H
    have c3b0 : decide (x5_1 < (x0_1.length : Int)) = false := decide_eq_false c3
    clear c3
    simp only [Option.some.injEq, Prod.mk.injEq] at H
    obtain ⟨rfl, rfl⟩ := H
    obtain ⟨Ao9, co9, eo9⟩ := zaf HO_0.out
    subst eo9
    go_wp2
    go_ret
    exact ⟨by first | rfl | (simp [errW_none, errW_some] <;> rfl) | (simp [*, errW_none, errW_some] <;> rfl), by (with_reducible repeat (first | apply zk | apply zl | apply zn)); exact HO_0.out, by repeat (first | (with_reducible first | exact HB.out | apply zd | apply zb | apply zc) | exact HB.out), by repeat (first | (with_reducible first | exact HK.out | apply Kept.alloc | apply Kept.drewN | apply Kept.drew) | exact HK.out)⟩

/-! ### laws_markSourcing: function 19 -/
def laws_markSourcing.f (k : Nat) (l0_0 : List Int) (a0_1 : Int) (a0_2 : Int) (a1 : Int) : Option (Int × List Int) := (laws_markIntS.f k l0_0 a1).bind fun bt291 => (some (bt291.1, bt291.2))
theorem laws_markSourcing.mono : ∀ a0 a1 a2 a3 k, LeO (laws_markSourcing.f k a0 a1 a2 a3) (laws_markSourcing.f (k + 1) a0 a1 a2 a3) := by
 intro a0 a1 a2 a3 k
 unfold laws_markSourcing.f
 repeat' first
   | (with_reducible exact laws_markIntS.mono _ _ _)
   | (with_reducible exact LeO.refl _)
   | (with_reducible exact LeO.none _)
   | (with_reducible refine LeO.ite ?_ ?_)
   | (with_reducible refine LeO.bind ?_ (fun _ => ?_))
   | exact laws_markIntS.mono _ _ _
   | exact LeO.none _
   | refine LeO.ite ?_ ?_
   | refine LeO.bind ?_ (fun _ => ?_)
set_option maxHeartbeats 8000000 in
set_option maxRecDepth 100000 in
theorem laws_markSourcing.calls (k : Nat) (P0_0_ : Nat → Prop) (u9000_ : Value) (l0_0 : List Int) (a0_1 : Int) (a0_2 : Int) (a1 : Int) (r1 : Int) (r2 : List Int) (w0 w : World) (hB : Below w0.heap.size w0 w) (ho0_0 : Kd.R (Kd.int .i64) 3 w w0.heap.size P0_0_ u9000_ l0_0) (h : laws_markSourcing.f k l0_0 a0_1 a0_2 a1 = some (r1, r2)) :
  Calls Try.prog 19 #[.agg #[u9000_, .int .i64 a0_1, .int .i64 a0_2], .int .i64 a1] w fun e w' => e = .returned (.int .i64 r1) ∧ Kd.R (Kd.int .i64) 3 w' w0.heap.size (fun k_ => (P0_0_ k_ ∨ w.heap.size ≤ k_)) u9000_ r2 ∧ Below w0.heap.size w0 w' ∧ Kept w w' (fun k_ => P0_0_ k_) := by
 have hu28 := Try.underlying28
 have HO0_0 := za (show Kd.R (Kd.int .i64) 3 w w0.heap.size (fun k_ => (P0_0_ k_ ∨ w.heap.size ≤ k_)) u9000_ l0_0 from zx ho0_0 (fun k_ hk => (.inl hk)))
 have HK := za (Kept.refl w (fun k_ => P0_0_ k_))
 have HW0 := za hB.size
 have HB := za hB
 clear hB
 have H : ((laws_markIntS.f k l0_0 a1).bind fun bt291 => (some (bt291.1, bt291.2))) = some (r1, r2) := h
 clear h
 replace H := Option.bind_eq_some_iff.mp H
 obtain ⟨⟨t291, t292⟩, A30, H⟩ := H
 replace H : (some (t291, t292)) = some (r1, r2) := H
 have A3 := za A30
 clear A30
 simp only [Option.some.injEq, Prod.mk.injEq] at H
 obtain ⟨rfl, rfl⟩ := H
 obtain ⟨Ao4, co4, eo4⟩ := zaf HO0_0.out
 subst eo4
 go_enter Try.func19, Try.ntmps19
 go_wp2_with (first | ((with_reducible refine gate_dst (N := 2) rfl ?_); refine box_event ?hg (N := 2) ?hd (cs := #[.slice Ao4 l0_0.length co4, .int .i64 a0_1, .int .i64 a0_2]) (t := 28) ?hr ?_; (case hd => rfl); (case hg => rfl); (case hr => first | (go_simp; done) | (go_simp; rfl)); intro gb290 hg w5 hbox hb; have n0_ := za (zp (by (with_reducible repeat (first | apply zk | apply zl | apply zn)); exact HO0_0.out) hb); have n1_ := za (Kept.below (S := (fun k_ => P0_0_ k_)) (by repeat (first | (with_reducible first | exact HK.out | apply Kept.alloc | apply Kept.drewN | apply Kept.drew) | exact HK.out)) hb); have n2_ := za (zq zG72 hb); have n3_ := za (hbox); have n4_ := za ((by rw [hg]; exact (by first | exact HK.out.1 | exact (show Kept w _ (fun k_ => P0_0_ k_) from by repeat (first | (with_reducible first | exact HK.out | apply Kept.alloc | apply Kept.drewN | apply Kept.drew) | exact HK.out)).1) : w.heap.size ≤ gb290)); have n5_ := za ((by rw [hg]; exact (zo zG72) : w0.heap.size ≤ gb290)); clear HO0_0; clear HK; clear HB; have HO0_0 := n0_; have HK := n1_; have HB := n2_; have BK290 := n3_; have GW290 := n4_; have GE290 := n5_; clear n0_ n1_ n2_ n3_ n4_ n5_; clear hb hbox hg; have hcz6_0 : w5.cell? ⟨gb290, 0, none⟩ = some (.slice Ao4 l0_0.length co4) := (zm BK290.out 0).trans rfl; have hcz6_1 : w5.cell? ⟨gb290, 1, none⟩ = some (.int .i64 a0_1) := (zm BK290.out 1).trans rfl; have hcz6_2 : w5.cell? ⟨gb290, 2, none⟩ = some (.int .i64 a0_2) := (zm BK290.out 2).trans rfl; have hfz6_0 := zj BK290.out 0; have hfz6_1 := zj BK290.out 1; have hfz6_2 := zj BK290.out 2) | ((with_reducible refine gate_callee (f := 18) rfl ?_); refine goesL_ (some 8) rfl rfl Try.func18 zG83 rfl #[.slice Ao4 l0_0.length co4, .int .i64 a1] rfl zG67 ?_; (with_reducible refine (laws_markIntS.calls k (fun k_ => some k_ = (.slice Ao4 l0_0.length co4 : Value).ownBlock) (.slice Ao4 l0_0.length co4) l0_0 a1 t291 t292 w0 _ ?side1 ?side2 A3.out).mono ?_); (case side1 => repeat (first | (with_reducible first | exact HB.out | apply zd | apply zb | apply zc | refine zf ?_ GE290.out) | exact HB.out)); (case side2 => exact zat rfl HO0_0.out); rintro e w7 ⟨rfl, hy0, hb, hkp⟩; refine ⟨_, rfl, ?_⟩; have n0_ := za (zav rfl hy0 (fun k_ e_ => HO0_0.out.1 k_ e_)); have n1_ := za (zax (by (with_reducible repeat (first | refine zh ?_ _ | refine zi ?_ | refine zg ?_ _)); exact BK290.out) hkp (fun hs_ => (fun e_ => (zas HO0_0.out BK290.out (by decide)) e_) hs_)); have n2_ := za (Kept.then_ (S := (fun k_ => P0_0_ k_)) (by repeat (first | (with_reducible first | exact HK.out | apply Kept.alloc | apply Kept.drewN | apply Kept.drew | refine Kept.setCell ?_ (.inr GW290.out) _) | exact HK.out)) hkp (fun k_ hs_ => (fun e_ => (HO0_0.out.1 k_ e_.symm)) hs_)); have n3_ := za (hb); clear HO0_0; clear BK290; clear HK; clear HB; have HO0_0 := n0_; have BK290 := n1_; have HK := n2_; have HB := n3_; clear n0_ n1_ n2_ n3_; (try clear hb); (try clear hkp); (try clear hy0)))
 go_ret
 exact ⟨by first | rfl | (simp [errW_none, errW_some] <;> rfl) | (simp [*, errW_none, errW_some] <;> rfl), by (with_reducible repeat (first | apply zk | apply zl | apply zn)); exact HO0_0.out, by repeat (first | (with_reducible first | exact HB.out | apply zd | apply zb | apply zc | refine zf ?_ GE290.out) | exact HB.out), by repeat (first | (with_reducible first | exact HK.out | apply Kept.alloc | apply Kept.drewN | apply Kept.drew | refine Kept.setCell ?_ (.inr GW290.out) _) | exact HK.out)⟩

/-! ### laws_heldIntS: function 50 -/
def laws_heldIntS.l0 : Nat → List Int → Int → Int → Option (Int)
 | 0, _, _, _ => none
 | k + 1, x0, x1, x5 => if x5 < (x0.length : Int) then (if 0 ≤ x5 then (if (rd x0 x5) = x1 then (laws_heldIntS.l0 k x0 (wrap64 (x1 + 1)) (wrap64 (x5 + 1))) else (some (-1))) else (none)) else (some x1)
def laws_heldIntS.f (k : Nat) (l0 : List Int) (a1 : Int) : Option (Int) := laws_heldIntS.l0 k l0 a1 0
theorem laws_heldIntS.mono_l : ∀ k, (∀ y0 y1 y2, LeO (laws_heldIntS.l0 k y0 y1 y2) (laws_heldIntS.l0 (k + 1) y0 y1 y2))
 | 0 => fun _ _ _ r h => by simp [laws_heldIntS.l0] at h
 | k + 1 => by
  have ih0 := laws_heldIntS.mono_l k
  ·intro y0 y1 y2
   unfold laws_heldIntS.l0
   repeat' first
   | (with_reducible exact ih0 _ _ _)
   | (with_reducible exact LeO.refl _)
   | (with_reducible exact LeO.none _)
   | (with_reducible refine LeO.ite ?_ ?_)
   | (with_reducible refine LeO.bind ?_ (fun _ => ?_))
   | exact ih0 _ _ _
   | exact LeO.none _
   | refine LeO.ite ?_ ?_
   | refine LeO.bind ?_ (fun _ => ?_)
theorem laws_heldIntS.mono : ∀ a0 a1 k, LeO (laws_heldIntS.f k a0 a1) (laws_heldIntS.f (k + 1) a0 a1) := by
 intro a0 a1 k
 have ih0 := laws_heldIntS.mono_l k
 unfold laws_heldIntS.f
 repeat' first
   | (with_reducible exact ih0 _ _ _)
   | (with_reducible exact LeO.refl _)
   | (with_reducible exact LeO.none _)
   | (with_reducible refine LeO.ite ?_ ?_)
   | (with_reducible refine LeO.bind ?_ (fun _ => ?_))
   | exact ih0 _ _ _
   | exact LeO.none _
   | refine LeO.ite ?_ ?_
   | refine LeO.bind ?_ (fun _ => ?_)
set_option maxHeartbeats 8000000 in
set_option maxRecDepth 100000 in
theorem laws_heldIntS.calls (k : Nat) (A0 : Option Addr) (c0 : Nat) (l0 : List Int) (a1 : Int) (r : Int) (w : World) (hr0 : Kd.C (Kd.int .i64) w A0 l0.length l0) (hc0 : l0.length ≤ c0) (h : laws_heldIntS.f k l0 a1 = some r) :
  Calls Try.prog 50 #[.slice A0 l0.length c0, .int .i64 a1] w fun e w' => e = .returned (.int .i64 r) ∧ Drawn0 w w' := by
 have HR0 := za hr0
 have HC0 := za hc0
 clear hr0 hc0
 have H : (laws_heldIntS.l0 k l0 a1 0) = some r := h
 clear h
 have H' := za H
 clear H
 go_enter Try.func50, Try.ntmps50
 go_wp2
 go_loopg [1, 5] k (fun kq v1 v5 w' => ∃ (x1_1 : Int) (x5_1 : Int), v1 = .int .i64 x1_1 ∧ v5 = .int .i64 x5_1 ∧ Aside0 (laws_heldIntS.l0 kq l0 x1_1 x5_1 = some r) ∧ Aside0 (kq ≤ k) ∧ Drawn0 w w')
 case atStart => exact ⟨(a1), (0), zG82, zG82, H', ⟨Nat.le_refl _⟩, by repeat (first | exact Drawn0.refl _ | apply Drawn0.step)⟩
 case round =>
  clear H'
  try clear p2
  obtain ⟨x1_1, x5_1, rfl, rfl, HA, HK1, ⟨m1, rfl⟩⟩ := hrel
  cases gk with
  | zero => exact absurd HA.out (by simp [laws_heldIntS.l0])
  | succ k1 =>
   have H := HA.out
   clear HA
   simp only [laws_heldIntS.l0] at H
   by_cases c3 : x5_1 < (l0.length : Int)
   ·rw [if_pos c3] at H
    have c3b0 : decide (x5_1 < (l0.length : Int)) = true := decide_eq_true c3
    clear c3
    by_cases c4 : 0 ≤ x5_1
    ·rw [if_pos c4] at H
     have c4b0 : decide (0 ≤ x5_1) = true := decide_eq_true c4
     clear c4
     by_cases c5 : (rd l0 x5_1) = x1_1
     ·rw [if_pos c5] at H
      have c5b0 : ((rd l0 x5_1) == x1_1) = true := beq_iff_eq.mpr c5
      have c5b1 : ((rd l0 x5_1) != x1_1) = false := bne_eq_false_iff_eq.mpr c5
      clear c5
      have H' := za H
      clear H
      have p293 : 0 ≤ (x5_1 : Int) := zO
      have q293 : x5_1 < (l0.length : Int) := zO
      obtain ⟨ad293, e293, hx293_0⟩ := zal HR0.out x5_1 p293 q293
      cases e293
      replace p293 := eq_true p293
      replace q293 := eq_true q293
      go_wp2
      go_roundg k1
      case measure => have := HK1.out; omega
      case rel => exact ⟨(wrap64 (x1_1 + 1)), (wrap64 (x5_1 + 1)), zG82, zG82, H', ⟨by have := HK1.out; omega⟩, by repeat (first | exact Drawn0.refl _ | apply Drawn0.step)⟩
     ·rw [if_neg c5] at H
      have c5b0 : ((rd l0 x5_1) == x1_1) = false := beq_eq_false_iff_ne.mpr c5
      have c5b1 : ((rd l0 x5_1) != x1_1) = true := bne_iff_ne.mpr c5
      obtain rfl := Option.some.inj H
      have p293 : 0 ≤ (x5_1 : Int) := zO
      have q293 : x5_1 < (l0.length : Int) := zO
      obtain ⟨ad293, e293, hx293_0⟩ := zal HR0.out x5_1 p293 q293
      cases e293
      replace p293 := eq_true p293
      replace q293 := eq_true q293
      go_wp2
      go_ret
      exact ⟨by first | rfl | (simp; done) | (simp [*]; done), by repeat (first | exact Drawn0.refl _ | apply Drawn0.step)⟩
    ·rw [if_neg c4] at H
     exact absurd H (by simp)
   ·rw [if_neg c3] at H
    have c3b0 : decide (x5_1 < (l0.length : Int)) = false := decide_eq_false c3
    clear c3
    obtain rfl := Option.some.inj H
    go_wp2
    go_ret
    exact ⟨by first | rfl | (simp; done) | (simp [*]; done), by repeat (first | exact Drawn0.refl _ | apply Drawn0.step)⟩

/-! ### laws_heldSourcing: function 20 -/
def laws_heldSourcing.f (k : Nat) (l0_0 : List Int) (a0_1 : Int) (a0_2 : Int) (a1 : Int) : Option (Int) := (laws_heldIntS.f k l0_0 a1).bind fun t295 => (if t295 < 0 then (some (-1)) else (some t295))
theorem laws_heldSourcing.mono : ∀ a0 a1 a2 a3 k, LeO (laws_heldSourcing.f k a0 a1 a2 a3) (laws_heldSourcing.f (k + 1) a0 a1 a2 a3) := by
 intro a0 a1 a2 a3 k
 unfold laws_heldSourcing.f
 repeat' first
   | (with_reducible exact laws_heldIntS.mono _ _ _)
   | (with_reducible exact LeO.refl _)
   | (with_reducible exact LeO.none _)
   | (with_reducible refine LeO.ite ?_ ?_)
   | (with_reducible refine LeO.bind ?_ (fun _ => ?_))
   | exact laws_heldIntS.mono _ _ _
   | exact LeO.none _
   | refine LeO.ite ?_ ?_
   | refine LeO.bind ?_ (fun _ => ?_)
set_option maxHeartbeats 8000000 in
set_option maxRecDepth 100000 in
theorem laws_heldSourcing.calls (k : Nat) (A0_0 : Option Addr) (c0_0 : Nat) (l0_0 : List Int) (a0_1 : Int) (a0_2 : Int) (a1 : Int) (r : Int) (w : World) (hr0_0 : Kd.C (Kd.int .i64) w A0_0 l0_0.length l0_0) (hc0_0 : l0_0.length ≤ c0_0) (h : laws_heldSourcing.f k l0_0 a0_1 a0_2 a1 = some r) :
  Calls Try.prog 20 #[.agg #[.slice A0_0 l0_0.length c0_0, .int .i64 a0_1, .int .i64 a0_2], .int .i64 a1] w fun e w' => e = .returned (.int .i64 r) ∧ Below w.heap.size w w' := by
 have hu28 := Try.underlying28
 have HR0_0 := za hr0_0
 have HC0_0 := za hc0_0
 clear hr0_0 hc0_0
 have HB := za (Below.refl w.heap.size w)
 have H : ((laws_heldIntS.f k l0_0 a1).bind fun t295 => (if t295 < 0 then (some (-1)) else (some t295))) = some r := h
 clear h
 replace H := Option.bind_eq_some_iff.mp H
 obtain ⟨t295, A30, H⟩ := H
 replace H : (if t295 < 0 then (some (-1)) else (some t295)) = some r := H
 have A3 := za A30
 clear A30
 by_cases c4 : t295 < 0
 ·rw [if_pos c4] at H
  have c4b0 : decide (t295 < 0) = true := decide_eq_true c4
  clear c4
  obtain rfl := Option.some.inj H
  go_enter Try.func20, Try.ntmps20
  go_wp2_with (first | ((with_reducible refine gate_dst (N := 2) rfl ?_); refine box_event ?hg (N := 2) ?hd (cs := #[.slice A0_0 l0_0.length c0_0, .int .i64 a0_1, .int .i64 a0_2]) (t := 28) ?hr ?_; (case hd => rfl); (case hg => rfl); (case hr => first | (go_simp; done) | (go_simp; rfl)); intro gb294 hg w5 hbox hb; have n0_ := za (zq zG72 hb); have n1_ := za (hbox); have n2_ := za ((by rw [hg]; exact (zo zG72) : w.heap.size ≤ gb294)); have n3_ := za ((by rw [hg]; exact (zo zG72) : w.heap.size ≤ gb294)); clear HB; have HB := n0_; have BK294 := n1_; have GW294 := n2_; have GE294 := n3_; clear n0_ n1_ n2_ n3_; clear hb hbox hg; have hcz6_0 : w5.cell? ⟨gb294, 0, none⟩ = some (.slice A0_0 l0_0.length c0_0) := (zm BK294.out 0).trans rfl; have hcz6_1 : w5.cell? ⟨gb294, 1, none⟩ = some (.int .i64 a0_1) := (zm BK294.out 1).trans rfl; have hcz6_2 : w5.cell? ⟨gb294, 2, none⟩ = some (.int .i64 a0_2) := (zm BK294.out 2).trans rfl; have hfz6_0 := zj BK294.out 0; have hfz6_1 := zj BK294.out 1; have hfz6_2 := zj BK294.out 2) | ((with_reducible refine gate_callee (f := 50) rfl ?_); refine goesL_ (some 8) rfl rfl Try.func50 zG83 rfl #[.slice A0_0 l0_0.length c0_0, .int .i64 a1] rfl zG67 ?_; (with_reducible refine (laws_heldIntS.calls k _ _ l0_0 a1 t295 _ ?side1 ?side2 A3.out).mono ?_); (case side1 => repeat (first | exact (zw HR0_0.out HB.out) | (with_reducible refine zs ?_ _) | (with_reducible refine zt ?_ _) | (with_reducible refine zu ?_))); (case side2 => exact HC0_0.out); rintro e w' ⟨rfl, ⟨nd, rfl⟩⟩; refine ⟨_, rfl, ?_⟩))
  go_ret
  exact ⟨by first | rfl | (simp [errW_none, errW_some] <;> rfl) | (simp [*, errW_none, errW_some] <;> rfl), by repeat (first | (with_reducible first | exact HB.out | apply zd | apply zb | apply zc | refine zf ?_ GE294.out) | exact HB.out)⟩
 ·rw [if_neg c4] at H
  have c4b0 : decide (t295 < 0) = false := decide_eq_false c4
  clear c4
  obtain rfl := Option.some.inj H
  go_enter Try.func20, Try.ntmps20
  go_wp2_with (first | ((with_reducible refine gate_dst (N := 2) rfl ?_); refine box_event ?hg (N := 2) ?hd (cs := #[.slice A0_0 l0_0.length c0_0, .int .i64 a0_1, .int .i64 a0_2]) (t := 28) ?hr ?_; (case hd => rfl); (case hg => rfl); (case hr => first | (go_simp; done) | (go_simp; rfl)); intro gb294 hg w7 hbox hb; have n0_ := za (zq zG72 hb); have n1_ := za (hbox); have n2_ := za ((by rw [hg]; exact (zo zG72) : w.heap.size ≤ gb294)); have n3_ := za ((by rw [hg]; exact (zo zG72) : w.heap.size ≤ gb294)); clear HB; have HB := n0_; have BK294 := n1_; have GW294 := n2_; have GE294 := n3_; clear n0_ n1_ n2_ n3_; clear hb hbox hg; have hcz8_0 : w7.cell? ⟨gb294, 0, none⟩ = some (.slice A0_0 l0_0.length c0_0) := (zm BK294.out 0).trans rfl; have hcz8_1 : w7.cell? ⟨gb294, 1, none⟩ = some (.int .i64 a0_1) := (zm BK294.out 1).trans rfl; have hcz8_2 : w7.cell? ⟨gb294, 2, none⟩ = some (.int .i64 a0_2) := (zm BK294.out 2).trans rfl; have hfz8_0 := zj BK294.out 0; have hfz8_1 := zj BK294.out 1; have hfz8_2 := zj BK294.out 2) | ((with_reducible refine gate_callee (f := 50) rfl ?_); refine goesL_ (some 8) rfl rfl Try.func50 zG83 rfl #[.slice A0_0 l0_0.length c0_0, .int .i64 a1] rfl zG67 ?_; (with_reducible refine (laws_heldIntS.calls k _ _ l0_0 a1 t295 _ ?side1 ?side2 A3.out).mono ?_); (case side1 => repeat (first | exact (zw HR0_0.out HB.out) | (with_reducible refine zs ?_ _) | (with_reducible refine zt ?_ _) | (with_reducible refine zu ?_))); (case side2 => exact HC0_0.out); rintro e w' ⟨rfl, ⟨nd, rfl⟩⟩; refine ⟨_, rfl, ?_⟩))
  go_ret
  exact ⟨by first | rfl | (simp [errW_none, errW_some] <;> rfl) | (simp [*, errW_none, errW_some] <;> rfl), by repeat (first | (with_reducible first | exact HB.out | apply zd | apply zb | apply zc | refine zf ?_ GE294.out) | exact HB.out)⟩

end Go.Proofs.Ytjibigpdbpipcaa.L
