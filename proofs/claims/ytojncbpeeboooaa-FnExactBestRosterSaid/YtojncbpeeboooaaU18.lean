-- squeezed
-- made by pp.py (wip/tools) out of the translation; Lean checks it
import Derived.Laws.CopyRow
import Derived.Test.YtojncbpeeboooaaU0
import Derived.Test.YtojncbpeeboooaaU17
namespace Go.Proofs.Ytojncbpeeboooaa.U
open Go.RowKit Go.Proofs.YtojncbpeeboooaaW.PrintWords Go.Proofs.YtojncbpeeboooaaW.PrintLast Go.Proofs.YtojncbpeeboooaaW.PrintMore
attribute [local go_sem] max2_int min2_int max_two min_two max_three min_three max_four min_four   -- for this text's walks alone
set_option linter.unusedVariables false
set_option linter.unusedSimpArgs false


/-! ### laws_markWorkerS: function 52 -/
theorem hv_ne {W : World} {E : List Nat} {k t : Nat} {cs : Array Value} {fr : Nat × Nat} (h : ∃ q, q ∈ E ∧ ∃ cells, W.heap[k]? = some (.cells cells q (0, 0))) (hb : W.heap[k]? = some (.cells cs t fr)) (ht : t ∉ E) : False := by
 obtain ⟨q, hq, cells, hc⟩ := h
 rw [hc] at hb
 injection hb with hb
 injection hb with _ hb _
 exact ht (hb ▸ hq)
theorem hv_ne2 {W : World} {E : List Nat} {k t : Nat} {v : Value} (h : ∃ q, q ∈ E ∧ ∃ cells, W.heap[k]? = some (.cells cells q (0, 0))) (hT : ∀ k, v.ownBlock = some k → ∃ cells, W.heap[k]? = some (.cells cells t (0, 0))) (hk : some k = v.ownBlock) (ht : t ∉ E) : False := by
 obtain ⟨c, hc⟩ := hT k hk.symm
 exact hv_ne h hc ht
def hv_rows (k : Nat) : Nat → Int → Option Int
 | 0, a => some a
 | m + 1, a => (laws_markText.f k a).bind fun _ => hv_rows k m (wrap64 (a + 1))
theorem hv_rows_mono (k : Nat) : ∀ m a, LeO (hv_rows k m a) (hv_rows (k + 1) m a)
 | 0, _ => LeO.refl _
 | m + 1, a => by
  unfold hv_rows
  exact LeO.bind (laws_markText.mono _ _) (fun _ => hv_rows_mono k m _)
def laws_markWorkerS.f (k : Nat) : List S72 → Int → Option Int
 | [], a => some a
 | x :: l, a => (laws_markText.f k a).bind fun _ => (hv_rows k x.f4.length (wrap64 ((wrap64 ((wrap64 ((wrap64 (a + 1)) + 1)) + 1)) + 1))).bind fun b => laws_markWorkerS.f k l b
theorem laws_markWorkerS.mono : ∀ (a0 : List S72) (a1 : Int) (k : Nat), LeO (laws_markWorkerS.f k a0 a1) (laws_markWorkerS.f (k + 1) a0 a1)
 | [], _, _ => LeO.refl _
 | x :: l, a, k => by
  unfold laws_markWorkerS.f
  exact LeO.bind (laws_markText.mono _ _) (fun _ => LeO.bind (hv_rows_mono k _ _) (fun b => laws_markWorkerS.mono l b k))
/-- Blocks keep their types and sizes; those outside S stay as they are. -/
def Hv (w w' : World) (S : Nat → Prop) : Prop := w.heap.size ≤ w'.heap.size ∧ ∀ k, k < w.heap.size → (¬ S k → w'.heap[k]? = w.heap[k]?) ∧ ∀ (cur : Array Value) (e : TypeId), w.heap[k]? = some (.cells cur e (0, 0)) → ∃ cur' : Array Value, w'.heap[k]? = some (.cells cur' e (0, 0)) ∧ cur'.size = cur.size
theorem Hv.refl (w : World) (S : Nat → Prop) : Hv w w S := ⟨Nat.le_refl _, fun k _ => ⟨fun _ => rfl, fun cur e h => ⟨cur, h, rfl⟩⟩⟩
theorem Hv.trans {w w1 w2 : World} {S T : Nat → Prop} (h : Hv w w1 S) (g : Hv w1 w2 T) (hT : ∀ k, k < w.heap.size → T k → S k) : Hv w w2 S :=
 ⟨Nat.le_trans h.1 g.1, fun k hk => ⟨fun hn => ((g.2 k (Nat.lt_of_lt_of_le hk h.1)).1 (fun ht => hn (hT k hk ht))).trans ((h.2 k hk).1 hn), fun cur e hc => by
  obtain ⟨c1, h1, s1⟩ := (h.2 k hk).2 cur e hc
  obtain ⟨c2, h2, s2⟩ := (g.2 k (Nat.lt_of_lt_of_le hk h.1)).2 c1 e h1
  exact ⟨c2, h2, s2.trans s1⟩⟩⟩
theorem Hv.below {w w1 w2 : World} {S : Nat → Prop} (h : Hv w w1 S) (hb : Below w1.heap.size w1 w2) : Hv w w2 S :=
 ⟨Nat.le_trans h.1 hb.size, fun k hk => by
  have e := hb.block k (Nat.lt_of_lt_of_le hk h.1)
  rw [e]
  exact h.2 k hk⟩
theorem hv_heap {w1 : World} {g o : Nat} {v : Value} {cur : Array Value} {e : TypeId} (hc : w1.heap[g]? = some (.cells cur e (0, 0))) : (w1.setCell ⟨g, o, none⟩ v).heap[g]? = some (.cells (cur.setIfInBounds o v) e (0, 0)) := by
 rw [setCell_eq_setRow w1 g o cur e (0, 0) v hc]
 exact setRow_heap w1 g cur _ e _ hc
theorem Hv.set {w w1 : World} {S : Nat → Prop} (h : Hv w w1 S) {g o : Nat} {v : Value} {cur : Array Value} {e : TypeId} (hc : w1.heap[g]? = some (.cells cur e (0, 0))) (hS : g < w.heap.size → S g) : Hv w (w1.setCell ⟨g, o, none⟩ v) S := by
 have hg : (w1.setCell ⟨g, o, none⟩ v).heap[g]? = some (.cells (cur.setIfInBounds o v) e (0, 0)) := by
  rw [setCell_eq_setRow w1 g o cur e (0, 0) v hc]
  exact setRow_heap w1 g cur _ e _ hc
 refine ⟨by have := h.1; simp only [World.setCell]; simpa using this, fun k hk => ?_⟩
 by_cases hk2 : k = g
 ·subst hk2
  refine ⟨fun hn => absurd (hS hk) hn, fun c0 e0 h0 => ?_⟩
  obtain ⟨c1, h1, s1⟩ := (h.2 k hk).2 c0 e0 h0
  rw [hc] at h1
  injection h1 with h1
  injection h1 with ha hb _
  subst ha; subst hb
  exact ⟨_, hg, by simpa using s1⟩
 ·rw [Below.heap_setCell w1 ⟨g, o, none⟩ v k hk2]
  exact h.2 k hk
theorem hv_cell {W : World} {g j : Nat} {cur : Array Value} {e : TypeId} (h : W.heap[g]? = some (.cells cur e (0, 0))) (hj : j < cur.size) : ∃ u, W.cell? ⟨g, j, none⟩ = some u ∧ W.frozen? ⟨g, j, none⟩ = false :=
 ⟨cur[j], by simp [World.cell?, h, hj], by simp [World.frozen?, h]⟩
/-- A slice of elements of some cells, of the call's own, as its value tells it. -/
def RawV (W : World) (base e sz m : Nat) (v : Value) : Prop := (v = .slice none 0 0 ∧ m = 0) ∨ ∃ g c cur, v = .slice (some ⟨g, 0, none⟩) m c ∧ base ≤ g ∧ W.heap[g]? = some (.cells cur e (0, 0)) ∧ m * sz ≤ cur.size
set_option maxHeartbeats 64000000 in
set_option maxRecDepth 100000 in
theorem hv_marks (k m : Nat) (v : Value) (a1 r1 : Int) (w0 w : World) (hB : Below w0.heap.size w0 w) (hv : RawV w w0.heap.size 9 1 m v) (hm : m ≤ maxLen) (h : hv_rows k m a1 = some r1) :
  Calls Try.prog 115 #[v, .int .i64 a1] w fun e w' => e = .returned (.int .i64 r1) ∧ Below w0.heap.size w0 w' ∧ Hv w w' (fun k_ => v.ownBlock = some k_) := by
 have hml : m ≤ 9223372036854775807 := hm
 obtain ⟨A, c, hvv⟩ : ∃ A c, v = .slice A m c := by
  rcases hv with ⟨rfl, rfl⟩ | ⟨g, c, cur, rfl, _⟩
  ·exact ⟨none, 0, rfl⟩
  ·exact ⟨_, c, rfl⟩
 subst hvv
 obtain ⟨HV, HM, HB0, H0⟩ := zD4 hv hml hB h
 clear hv hm hml hB h
 go_enter Try.func115, Try.ntmps115
 go_wp2
 go_loopg [1, 5] m (fun kq v1 v5 w' => ∃ (x1_1 : Int) (x5_1 : Int), v1 = .int .i64 x1_1 ∧ v5 = .int .i64 x5_1 ∧ Aside0 (hv_rows k (m - x5_1.toNat) x1_1 = some r1) ∧ Aside0 (0 ≤ x5_1 ∧ x5_1 ≤ (m : Int) ∧ m - x5_1.toNat ≤ kq) ∧ Aside0 (Below w0.heap.size w0 w') ∧ Aside0 (Hv w w' (fun k_ => (Value.slice A m c).ownBlock = some k_)))
 case atStart => exact ⟨a1, 0, zG100, zG100, ⟨by simpa using H0.out⟩, ⟨by omega⟩, ⟨zH88⟩, ⟨by first | exact Hv.refl _ _ | exact (Hv.refl w _ : Hv w w _)⟩⟩
 case round =>
  obtain ⟨x1_1, x5_1, rfl, rfl, HA, HI, HB, HH⟩ := hrel
  by_cases c3 : x5_1 < (m : Int)
  rotate_left
  ·have c3b0 := decide_eq_false c3
   have hz : m - x5_1.toNat = 0 := by have := HI.out; omega
   have H := HA.out
   rw [hz, hv_rows] at H
   obtain rfl := Option.some.inj H
   clear H HA c3
   go_wp2
   go_ret
   exact ⟨by first | rfl | (simp; done), zH91, HH.out⟩
  have c3b0 := decide_eq_true c3
  have c4b0 : decide (0 ≤ x5_1) = true := decide_eq_true HI.out.1
  obtain ⟨n, hn⟩ : ∃ n, m - x5_1.toNat = n + 1 := ⟨m - x5_1.toNat - 1, by have := HI.out; omega⟩
  have H := HA.out
  rw [hn, hv_rows] at H
  obtain ⟨t, A4, H⟩ := Option.bind_eq_some_iff.mp H
  have A4 := zb A4
  have H' := zb H
  obtain ⟨HN, C3⟩ := zD2 hn c3
  clear H HA hn
  obtain ⟨g, cur, hAc, hge, hcu, hsz⟩ : ∃ g cur, A = some ⟨g, 0, none⟩ ∧ w0.heap.size ≤ g ∧ w.heap[g]? = some (.cells cur 9 (0, 0)) ∧ m * 1 ≤ cur.size := by
   rcases HV.out with ⟨_, hm0⟩ | ⟨g, c', cur, he, h1, h2, h3⟩
   ·have := HI.out; omega
   ·injection he with he1 _ _
    exact ⟨g, cur, he1, h1, h2, h3⟩
  subst hAc
  have hlt : g < w.heap.size := (Array.getElem?_eq_some_iff.1 hcu).1
  obtain ⟨cur1, hcu1, hs1⟩ := (HH.out.2 g hlt).2 cur 9 hcu
  obtain ⟨HC1, HS1, HGE⟩ := zD3 hcu1 (show x5_1.toNat < cur1.size by have := HI.out; omega) hge
  clear hge hcu hsz hs1 hcu1 hlt
  have p5 : (0 ≤ x5_1) = True := eq_true HI.out.1
  have q5 : (x5_1 < (m : Int)) = True := eq_true c3
  clear c3
  go_wp2_with (first | ((with_reducible refine gate_callee (f := 108) rfl ?_); refine goesL_ (some 15) rfl rfl Try.func108 zG101 rfl #[.int .i64 x1_1] rfl zK222 ?_; (with_reducible refine (laws_markText.calls k x1_1 t _ A4.out).mono ?_); rintro e w9 ⟨rfl, hb⟩; refine ⟨_, rfl, ?_⟩; have n0_ := zb (zp zG77 hb); have n1_ := zb (Hv.below HH.out hb); have n2_ := zb ((hb.block g (Array.getElem?_eq_some_iff.1 HC1.out).1).trans HC1.out); clear HB HH HC1; have HB := n0_; have HH := n1_; have HC1 := n2_; clear n0_ n1_ n2_ hb; obtain ⟨ue0, hx6_0, hf6_0⟩ := hv_cell HC1.out (show x5_1.toNat < cur1.size by have := HS1.out; omega)))
  have hw5 : wrap64 (x5_1 + 1) = x5_1 + 1 := by have := HI.out; have := HM.out; have := C3.out; unfold wrap64; omega
  have HW5 := zb hw5
  clear hw5
  go_roundg n
  case measure => have := HI.out; have := HN.out; omega
  case rel =>
   refine ⟨wrap64 (x1_1 + 1), wrap64 (x5_1 + 1), rfl, rfl, ⟨?_⟩, ⟨?_⟩, ⟨zh HB.out HGE.out⟩, ⟨Hv.set HH.out HC1.out (fun _ => rfl)⟩⟩
   ·rw [HW5.out, show m - (x5_1 + 1).toNat = n by have := HI.out; have := HN.out; omega]
    exact H'.out
   ·rw [HW5.out]
    have := HI.out; have := HN.out; have := C3.out
    exact ⟨by omega, by omega, by omega⟩
theorem RawV.move {W W' : World} {base e sz m : Nat} {v : Value} {S : Nat → Prop} (h : RawV W base e sz m v) (g : Hv W W' S) : RawV W' base e sz m v := by
 rcases h with h | ⟨b, c, cur, rfl, hb, hc, hs⟩
 ·exact .inl h
 ·obtain ⟨cur', hc', hs'⟩ := (g.2 b (Array.getElem?_eq_some_iff.1 hc).1).2 cur e hc
  exact .inr ⟨b, c, cur', rfl, hb, hc', by omega⟩
theorem RawV.of_R {α : Type} {d : Kd α} {e base : Nat} {W : World} {ok : Nat → Prop} {v : Value} {xs : List α} (h : d.R e W base ok v xs) : RawV W base e d.sz xs.length v ∧ (xs.length ≤ maxLen) := by
 obtain ⟨inner, _, ho⟩ := Kd.R_own h
 rcases ho with ⟨rfl, h0⟩ | ⟨g, cap, cur, rfl, hb, hc, hn, hm, hs, _⟩
 ·exact ⟨.inl ⟨rfl, h0⟩, by rw [h0]; exact Nat.zero_le _⟩
 ·exact ⟨.inr ⟨g, cap, cur, rfl, hb, hc, by rw [hs]; exact Nat.mul_le_mul_right _ hn⟩, Nat.le_trans hn hm⟩
theorem hv_at {W : World} {g j : Nat} {cur : Array Value} {e : TypeId} (h : W.heap[g]? = some (.cells cur e (0, 0))) : W.cell? ⟨g, j, none⟩ = cur[j]? := by simp [World.cell?, h]
/-- The outer row, as it stands at W: its structs' slices are where they were. -/
def Out (W : World) (go : Nat) (curO : Array Value) : Prop := ∃ cur : Array Value, W.heap[go]? = some (.cells cur 72 (0, 0)) ∧ cur.size = curO.size ∧ ∀ i, cur[i * 5 + 4]? = curO[i * 5 + 4]?
theorem Out.set {W : World} {go i : Nat} {curO : Array Value} {v : Value} (h : Out W go curO) (j : Nat) (hj : ∃ d, d < 4 ∧ j = i * 5 + d) : Out (W.setCell ⟨go, j, none⟩ v) go curO := by
 obtain ⟨cur, h1, h2, h3⟩ := h
 obtain ⟨d_, hd_, hj⟩ := hj
 refine ⟨_, hv_heap h1, by simpa using h2, fun l => ?_⟩
 rw [Array.getElem?_setIfInBounds_ne (by omega)]
 exact h3 l
theorem Out.below {W W1 : World} {go : Nat} {curO : Array Value} (h : Out W go curO) (hb : Below W.heap.size W W1) : Out W1 go curO := by
 obtain ⟨cur, h1, h2⟩ := h
 exact ⟨cur, (hb.block go (Array.getElem?_eq_some_iff.1 h1).1).trans h1, h2⟩
theorem Out.hv {W W1 : World} {go : Nat} {curO : Array Value} {S : Nat → Prop} (h : Out W go curO) (hb : Hv W W1 S) (hn : ¬ S go) : Out W1 go curO := by
 obtain ⟨cur, h1, h2⟩ := h
 exact ⟨cur, ((hb.2 go (Array.getElem?_eq_some_iff.1 h1).1).1 hn).trans h1, h2⟩
theorem Kept.of_Hv {w w' : World} {S : Nat → Prop} (h : Hv w w' S) : Kept w w' S := ⟨h.1, fun k hk hn => (h.2 k hk).1 hn⟩
set_option maxHeartbeats 64000000 in
set_option maxRecDepth 100000 in
theorem laws_markWorkerS.calls (k : Nat) (P0_ : Nat → Prop) (u9000_ : Value) (l0 : List (S72)) (a1 : Int) (r1 : Int) (w0 w : World) (hB : Below w0.heap.size w0 w) (ho0 : Kd.R k72 72 w w0.heap.size P0_ u9000_ l0) (h : laws_markWorkerS.f k l0 a1 = some r1) :
  Calls Try.prog 52 #[u9000_, .int .i64 a1] w fun e w' => e = .returned (.int .i64 r1) ∧ Below w0.heap.size w0 w' ∧ Kept w w' (fun k_ => P0_ k_ ∧ ∃ q, q ∈ [72, 9] ∧ ∃ cells, w.heap[k_]? = some (.cells cells q (0, 0))) := by
 obtain ⟨A, c, hvv⟩ := zaf ho0
 subst hvv
 have hlen := (RawV.of_R ho0).2
 have hml : l0.length ≤ 9223372036854775807 := hlen
 obtain ⟨HM, HO, HB0, H0⟩ := zD4 hml ho0 hB h
 -- what the outer row is, where there is one
 have hout : 0 < l0.length → ∃ go curO, A = some ⟨go, 0, none⟩ ∧ w0.heap.size ≤ go ∧ P0_ go ∧ w.heap[go]? = some (.cells curO 72 (0, 0)) ∧ l0.length * 5 ≤ curO.size ∧
   ∀ (i : Nat) x, l0[i]? = some x → ∃ v, curO[i * 5 + 4]? = some v ∧ RawV w w0.heap.size 9 1 x.f4.length v ∧ x.f4.length ≤ maxLen ∧ ∀ k_, v.ownBlock = some k_ → k_ ≠ go ∧ P0_ k_ ∧ ∃ cells, w.heap[k_]? = some (.cells cells 9 (0, 0)) := by
  intro hp
  obtain ⟨go, cap, he, hge, hlt, cells, hcells⟩ := Kd.R_form ho0 hp
  injection he with he1 _ he3
  subst he1; subst he3
  have hsz : l0.length * 5 ≤ cells.size := by
   rcases (RawV.of_R ho0).1 with ⟨hz, _⟩ | ⟨g, c', cur, hz, _, hc, hs⟩
   ·simp at hz
   ·injection hz with hz1 _ _
    injection hz1 with hz2
    injection hz2 with hz3
    subst hz3
    rw [hcells] at hc
    injection hc with hc
    injection hc with hc1
    subst hc1
    exact hs
  refine ⟨go, cells, rfl, hge, ho0.1 go rfl, hcells, hsz, fun i x hx => ?_⟩
  have hi : i < l0.length := (List.getElem?_eq_some_iff.1 hx).1
  obtain ⟨ce, hcl, hM, hcc, _⟩ := zbd ho0 z72 (i : Int) (by omega) (by omega)
  have hgx : l0.getD (i : Int).toNat z72 = x := by rw [Int.toNat_natCast, List.getD_eq_getElem?_getD, hx]; rfl
  rw [hgx] at hM
  obtain ⟨v, rfl, hR⟩ := k72_openM hM
  have h2 := hcc 4 v rfl
  rw [Int.toNat_natCast] at h2
  have h2' : w.cell? ⟨go, i * 5 + 4, none⟩ = some v := h2
  rw [hv_at hcells] at h2'
  refine ⟨v, h2', (RawV.of_R hR).1, (RawV.of_R hR).2, fun k_ hk_ => ?_⟩
  have h3 := hR.1 k_ hk_
  exact ⟨h3.2, h3.1, zba hR k_ hk_⟩
 have HOUT := zb hout
 clear hout hlen hml ho0 hB h
 go_enter Try.func52, Try.ntmps52
 go_wp2
 go_loopg [1, 5] l0.length (fun kq v1 v5 w' => ∃ (x1_1 : Int) (x5_1 : Int), v1 = .int .i64 x1_1 ∧ v5 = .int .i64 x5_1 ∧ Aside0 (laws_markWorkerS.f k (l0.drop x5_1.toNat) x1_1 = some r1) ∧ Aside0 (0 ≤ x5_1 ∧ x5_1 ≤ (l0.length : Int) ∧ l0.length - x5_1.toNat ≤ kq) ∧ Aside0 (Below w0.heap.size w0 w') ∧ Aside0 (Hv w w' (fun k_ => P0_ k_ ∧ ∃ q, q ∈ [72, 9] ∧ ∃ cells, w.heap[k_]? = some (.cells cells q (0, 0)))) ∧ Aside0 (∀ go curO, A = some ⟨go, 0, none⟩ → w.heap[go]? = some (.cells curO 72 (0, 0)) → Out w' go curO))
 case atStart => exact ⟨a1, 0, zG100, zG100, ⟨by simpa using H0.out⟩, ⟨by omega⟩, ⟨zH88⟩, ⟨Hv.refl w _⟩, ⟨fun go curO _ hc => ⟨curO, hc, rfl, fun _ => rfl⟩⟩⟩
 case round =>
  obtain ⟨x1_1, x5_1, rfl, rfl, HA, HI, HB, HH, HU⟩ := hrel
  by_cases c3 : x5_1 < (l0.length : Int)
  rotate_left
  ·have c3b0 := decide_eq_false c3
   have hz : l0.drop x5_1.toNat = [] := List.drop_eq_nil_of_le (by have := HI.out; omega)
   have H := HA.out
   rw [hz, laws_markWorkerS.f] at H
   obtain rfl := Option.some.inj H
   clear H HA c3
   go_wp2
   go_ret
   exact ⟨by first | rfl | (simp; done), zH91, Kept.of_Hv HH.out⟩


  have c3b0 := decide_eq_true c3
  have c4b0 : decide (0 ≤ x5_1) = true := decide_eq_true HI.out.1
  have hi : x5_1.toNat < l0.length := by have := HI.out; omega
  have hd := List.drop_eq_getElem_cons hi
  have hx : l0[x5_1.toNat]? = some l0[x5_1.toNat] := List.getElem?_eq_getElem hi
  generalize l0[x5_1.toNat] = x at hd hx
  have H := HA.out
  rw [hd, laws_markWorkerS.f] at H
  obtain ⟨t, A4, H⟩ := Option.bind_eq_some_iff.mp H
  obtain ⟨b, A5, H⟩ := Option.bind_eq_some_iff.mp H
  obtain ⟨A4, A5⟩ := zD2 A4 A5
  have H' := zb H
  have C3 := zb c3
  clear H HA hd
  obtain ⟨go, curO, hA, hge, hPg, hcu, hsz, hkids⟩ := HOUT.out (by omega)
  subst hA
  obtain ⟨v2, hv2, hraw, hvm, hvk⟩ := hkids x5_1.toNat x hx
  obtain ⟨HU0, HS1, HGE, HPG, HV2, HRAW, HVM, HVK, HCU⟩ := zD9 (HU.out go curO rfl hcu) (show x5_1.toNat * 5 + 4 < curO.size by omega) hge (show P0_ go ∧ ∃ q, q ∈ [72, 9] ∧ ∃ cells, w.heap[go]? = some (.cells cells q (0, 0)) from ⟨hPg, 72, by simp, curO, hcu⟩) hv2 hraw hvm hvk hcu
  clear hge hcu hsz hkids hv2 hraw hvm hvk hPg hi hx
  have p5 : (0 ≤ x5_1) = True := eq_true HI.out.1
  have q5 : (x5_1 < (l0.length : Int)) = True := eq_true c3
  clear c3 HU
  go_wp2_with (first | ((with_reducible refine gate_callee (f := 108) rfl ?_); refine goesL_ (some 15) rfl rfl Try.func108 zG101 rfl #[.int .i64 x1_1] rfl zK222 ?_; (with_reducible refine (laws_markText.calls k x1_1 t _ A4.out).mono ?_); rintro e w9 ⟨rfl, hb⟩; refine ⟨_, rfl, ?_⟩; have n0_ := zb (zp zG77 hb); have n1_ := zb (Hv.below HH.out hb); have n2_ := zb (Out.below HU0.out hb); clear HB HH HU0; have HB := n0_; have HH := n1_; have HU0 := n2_; clear n0_ n1_ n2_ hb; obtain ⟨cur9, hc9, hs9, hk9⟩ := HU0.out; have HC9 := zb hc9; obtain ⟨ue0, hx6_0, hf6_0⟩ := hv_cell hc9 (show x5_1.toNat * 5 < cur9.size by have := HS1.out; omega); obtain ⟨ue1, hx6_1, hf6_1⟩ := hv_cell hc9 (show x5_1.toNat * 5 + 1 < cur9.size by have := HS1.out; omega); obtain ⟨ue2, hx6_2, hf6_2⟩ := hv_cell hc9 (show x5_1.toNat * 5 + 2 < cur9.size by have := HS1.out; omega); obtain ⟨ue3, hx6_3, hf6_3⟩ := hv_cell hc9 (show x5_1.toNat * 5 + 3 < cur9.size by have := HS1.out; omega); have hx6_4 : w9.cell? ⟨go, x5_1.toNat * 5 + 4, none⟩ = some v2 := (hv_at hc9).trans ((hk9 _).trans HV2.out); clear hc9 hs9 hk9) | ((with_reducible refine gate_callee (f := 115) rfl ?_); refine goesL_ (some 47) rfl rfl Try.func115 zG101 rfl #[v2, .int .i64 (wrap64 ((wrap64 ((wrap64 ((wrap64 (x1_1 + 1)) + 1)) + 1)) + 1))] rfl zK222 ?_; have n3_ := zb (Hv.set (v := .int .i64 (wrap64 ((wrap64 ((wrap64 (x1_1 + 1)) + 1)) + 1))) (o := x5_1.toNat * 5 + 3) (Hv.set (v := .int .i64 (wrap64 ((wrap64 (x1_1 + 1)) + 1))) (o := x5_1.toNat * 5 + 2) (Hv.set (v := .int .i64 (wrap64 (x1_1 + 1))) (o := x5_1.toNat * 5 + 1) (Hv.set (v := .string t) (o := x5_1.toNat * 5) HH.out HC9.out (fun _ => HPG.out)) (hv_heap HC9.out) (fun _ => HPG.out)) (hv_heap (hv_heap HC9.out)) (fun _ => HPG.out)) (hv_heap (hv_heap (hv_heap HC9.out))) (fun _ => HPG.out)); refine (hv_marks k x.f4.length v2 _ b w0 _ (zh (zh (zh (zh HB.out HGE.out) HGE.out) HGE.out) HGE.out) (RawV.move HRAW.out n3_.out) HVM.out A5.out).mono ?_; rintro e w12 ⟨rfl, hb, hv12⟩; refine ⟨_, rfl, ?_⟩; have n0_ := zb hb; have n1_ := zb (Hv.trans n3_.out hv12 (fun k_ _ ht => ⟨(HVK.out k_ ht).2.1, 9, by simp, (HVK.out k_ ht).2.2⟩)); have n2_ := zb (Out.hv (Out.set (v := .int .i64 (wrap64 ((wrap64 ((wrap64 (x1_1 + 1)) + 1)) + 1))) (Out.set (v := .int .i64 (wrap64 ((wrap64 (x1_1 + 1)) + 1))) (Out.set (v := .int .i64 (wrap64 (x1_1 + 1))) (Out.set (v := .string t) HU0.out (i := x5_1.toNat) _ ⟨0, by omega, rfl⟩) (i := x5_1.toNat) _ ⟨1, by omega, rfl⟩) (i := x5_1.toNat) _ ⟨2, by omega, rfl⟩) (i := x5_1.toNat) _ ⟨3, by omega, rfl⟩) hv12 (fun e_ => (HVK.out go e_).1 rfl)); clear HB HH HU0; have HB := n0_; have HH := n1_; have HU0 := n2_; clear n0_ n1_ n2_ n3_ hb hv12))
  have HW5 := zb (show wrap64 (x5_1 + 1) = x5_1 + 1 by have := HI.out; have := HM.out; have := C3.out; unfold wrap64; omega)
  go_roundg (l0.length - x5_1.toNat - 1)
  case measure => have := HI.out; have := C3.out; omega
  case rel =>
   refine ⟨b, wrap64 (x5_1 + 1), rfl, rfl, ⟨?_⟩, ⟨?_⟩, ⟨HB.out⟩, ⟨HH.out⟩, ⟨fun go' curO' hg hc => ?_⟩⟩
   ·rw [HW5.out, show (x5_1 + 1).toNat = x5_1.toNat + 1 by have := HI.out; omega]
    exact H'.out
   ·rw [HW5.out]
    have := HI.out; have := C3.out
    exact ⟨by omega, by omega, by omega⟩
   ·injection hg with hg1
    injection hg1 with hg2
    subst hg2
    have hh := HCU.out
    rw [hc] at hh
    injection hh with hh
    injection hh with hh1
    subst hh1
    exact HU0.out
/-! ### laws_markIntS: function 74 -/
def laws_markIntS.l0 : Nat → List Int → Int → Int → Option (Int × List Int)
 | 0, _, _, _ => none
 | k + 1, x0, x1, x5 => if x5 < (x0.length : Int) then (if 0 ≤ x5 then (laws_markIntS.l0 k (x0.set (x5 : Int).toNat x1) (wrap64 (x1 + 1)) (wrap64 (x5 + 1))) else (none)) else (some (x1, x0))
def laws_markIntS.f (k : Nat) (l0 : List Int) (a1 : Int) : Option (Int × List Int) := laws_markIntS.l0 k l0 a1 0
theorem laws_markIntS.mono_l : ∀ k, (∀ y0 y1 y2, LeO (laws_markIntS.l0 k y0 y1 y2) (laws_markIntS.l0 (k + 1) y0 y1 y2))
 | 0 => fun _ _ _ r h => by simp [laws_markIntS.l0] at h
 | k + 1 => by
  have ih0 := laws_markIntS.mono_l k
  ·intro y0 y1 y2
   unfold laws_markIntS.l0
   repeat' first
   | (with_reducible exact ih0 _ _ _)
   | (with_reducible exact LeO.refl _)
   | (with_reducible exact LeO.none _)
   | (with_reducible refine LeO.ite ?_ ?_)
   | (with_reducible refine LeO.bind ?_ (fun _ => ?_))
   | exact ih0 _ _ _
   | exact LeO.none _
   | refine LeO.ite ?_ ?_
   | refine LeO.bind ?_ (fun _ => ?_)
theorem laws_markIntS.mono : ∀ a0 a1 k, LeO (laws_markIntS.f k a0 a1) (laws_markIntS.f (k + 1) a0 a1) := by
 intro a0 a1 k
 have ih0 := laws_markIntS.mono_l k
 unfold laws_markIntS.f
 repeat' first
   | (with_reducible exact ih0 _ _ _)
   | (with_reducible exact LeO.refl _)
   | (with_reducible exact LeO.none _)
   | (with_reducible refine LeO.ite ?_ ?_)
   | (with_reducible refine LeO.bind ?_ (fun _ => ?_))
   | exact ih0 _ _ _
   | exact LeO.none _
   | refine LeO.ite ?_ ?_
   | refine LeO.bind ?_ (fun _ => ?_)
set_option maxHeartbeats 64000000 in
set_option maxRecDepth 100000 in
theorem laws_markIntS.calls (k : Nat) (P0_ : Nat → Prop) (u9000_ : Value) (l0 : List Int) (a1 : Int) (r1 : Int) (r2 : List Int) (w0 w : World) (hB : Below w0.heap.size w0 w) (ho0 : Kd.R (Kd.int .i64) 3 w w0.heap.size P0_ u9000_ l0) (h : laws_markIntS.f k l0 a1 = some (r1, r2)) :
  Calls Try.prog 74 #[u9000_, .int .i64 a1] w fun e w' => e = .returned (.int .i64 r1) ∧ Kd.R (Kd.int .i64) 3 w' w0.heap.size (fun k_ => (P0_ k_ ∨ w.heap.size ≤ k_)) u9000_ r2 ∧ Below w0.heap.size w0 w' ∧ Kept w w' (fun k_ => P0_ k_) := by
 obtain ⟨HO0, HK, HW0, HB⟩ := zD4 (show Kd.R (Kd.int .i64) 3 w w0.heap.size (fun k_ => (P0_ k_ ∨ w.heap.size ≤ k_)) u9000_ l0 from zx ho0 (fun k_ hk => (.inl hk))) (Kept.refl w (fun k_ => P0_ k_)) hB.size hB
 clear hB
 have H : (laws_markIntS.l0 k l0 a1 0) = some (r1, r2) := h
 clear h
 have H' := zb H
 clear H
 go_enter Try.func74, Try.ntmps74
 go_wp2
 go_loopg [1, 5] k (fun kq v1 v5 w' => ∃ (x0_1 : List Int) (x1_1 : Int) (x5_1 : Int), v1 = .int .i64 x1_1 ∧ v5 = .int .i64 x5_1 ∧ Aside0 (laws_markIntS.l0 kq x0_1 x1_1 x5_1 = some (r1, r2)) ∧ Aside0 (kq ≤ k) ∧ Aside0 (Kd.R (Kd.int .i64) 3 w' w0.heap.size (fun k_ => (P0_ k_ ∨ w.heap.size ≤ k_)) u9000_ x0_1) ∧ Aside0 (Kept w w' (fun k_ => P0_ k_)) ∧ Aside0 (Below w0.heap.size w0 w'))
 case atStart => exact ⟨(l0), (a1), (0), zG100, zG100, H', ⟨Nat.le_refl _⟩, ⟨by (with_reducible repeat (first | apply zl | apply zm | apply zn)); exact HO0.out⟩, ⟨zH76⟩, ⟨zH91⟩⟩
 case round =>
  clear H'
  obtain ⟨x0_1, x1_1, x5_1, rfl, rfl, HA, HK1, HO_0, HK, HB⟩ := hrel
  cases gk with
  | zero => exact absurd HA.out (by simp [laws_markIntS.l0])
  | succ k1 =>
   have H := HA.out
   clear HA
   simp only [laws_markIntS.l0] at H
   by_cases c3 : x5_1 < (x0_1.length : Int)
   rotate_left
   ·rw [if_neg c3] at H
    have c3b0 := decide_eq_false c3
    clear c3
    simp only [Option.some.injEq, Prod.mk.injEq] at H
    obtain ⟨rfl, rfl⟩ := H
    obtain ⟨Ao9, co9, eo9⟩ := zaf HO_0.out
    subst eo9
    go_wp2
    go_ret
    exact zH12

   rw [if_pos c3] at H
   have c3b0 := decide_eq_true c3
   clear c3
   by_cases c4 : 0 ≤ x5_1
   rotate_left
   ·rw [if_neg c4] at H
    exact absurd H (by simp)
   rw [if_pos c4] at H
   have c4b0 := decide_eq_true c4
   clear c4
   obtain ⟨y321, hy321⟩ : ∃ y_ : List Int, y_ = (x0_1.set (x5_1 : Int).toNat x1_1) := ⟨_, rfl⟩
   replace H : (laws_markIntS.l0 k1 y321 (wrap64 (x1_1 + 1)) (wrap64 (x5_1 + 1))) = some (r1, r2) := by first | (rw [hy321]; with_reducible exact H) | (have H2_ := (Option.bind_some _ _).symm.trans H; rw [hy321]; with_reducible exact H2_) | (have H2_ := (Option.bind_some _ _).symm.trans H; with_reducible exact H2_) | with_reducible exact H | (rw [hy321]; exact H) | exact H
   have Ny321 := zb hy321
   clear hy321
   have H' := zb H
   clear H
   obtain ⟨Ao6, co6, eo6⟩ := zaf HO_0.out
   subst eo6
   have p5 : 0 ≤ (x5_1 : Int) := zO
   have q5 : (x5_1 : Int) < ((x0_1.length : Int) : Int) := zO
   obtain ⟨go5, co5, eo5, gb5, gl5, cl5, HG5⟩ := Kd.R_form HO_0.out (by omega)
   (first | cases eo5 | (injection eo5 with ea_ en_ ec_; (first | subst ea_ | (injection ea_ with ea_; subst ea_)); subst ec_; clear en_))
   obtain ⟨GB5, GG5, HMgo5⟩ := zD3 gb5 HG5 (show (P0_ go5 ∨ w.heap.size ≤ go5) from (HO_0.out.1 _ rfl))
   clear gb5 gl5 HG5
   obtain ⟨hx5_0, hf5_0⟩ := Kd.R_celln 0 HO_0.out (x5_1 : Int) p5 q5
   replace p5 := eq_true p5
   replace q5 := eq_true q5
   have HP7 := Kd.R_putg HO_0.out (x5_1 : Int) x1_1
   go_wp2_with (first | ((with_reducible refine gate_store (t := 3) (p := 15) rfl ?_); refine store_event (t := 3) (p := 15) (v := ?vo_w8) (w1 := (wr.setCell ⟨go5, (x5_1 : Int).toNat, none⟩ (.int .i64 x1_1))) ?hg ?ho ?hn ?hr ?_; (case ho => rfl); (case hg => rfl); (case hn => rfl); (case hr => exact zH117); intro w8 hw; have hg : wr.grownBy w8 (some go5) := (by rw [hw]; exact HP7.2); have hp_ : Kd.R (Kd.int .i64) 3 w8 w0.heap.size (fun k_ => (P0_ k_ ∨ w.heap.size ≤ k_)) (.slice (some ⟨go5, 0, none⟩) x0_1.length co6) y321 := (by rw [hw, Ny321.out]; exact HP7.1); clear HP7; have n_ := zA_ (zb (hp_)) (zA_ (zb ((by rw [hw]; exact zh (HB.out) GB5.out : Below w0.heap.size w0 w8))) (zb (zav (S := (fun k_ => P0_ k_)) hg zK191 (fun k_ e_ => (HO_0.out.1 k_ e_))))); clear HO_0 HB HK; obtain ⟨HO_0, HB, HK⟩ := n_; clear hg hw hp_))
   go_roundg k1
   case measure => have := HK1.out; omega
   case rel => exact ⟨(y321), (wrap64 (x1_1 + 1)), (wrap64 (x5_1 + 1)), zG100, zG100, H', ⟨zH120⟩, ⟨zH109⟩, ⟨zH76⟩, ⟨zH91⟩⟩
/-! ### laws_markRoster: function 53 -/
def laws_markRoster.f (k : Nat) (l0_0 : List Int) (a0_1 : Int) (a1 : Int) : Option (Int × List Int) := (laws_markIntS.f k l0_0 a1).bind fun bt323 => (some (bt323.1, bt323.2))
theorem laws_markRoster.mono : ∀ a0 a1 a2 k, LeO (laws_markRoster.f k a0 a1 a2) (laws_markRoster.f (k + 1) a0 a1 a2) := by
 intro a0 a1 a2 k
 unfold laws_markRoster.f
 repeat' first
   | (with_reducible exact laws_markIntS.mono _ _ _)
   | (with_reducible exact LeO.refl _)
   | (with_reducible exact LeO.none _)
   | (with_reducible refine LeO.ite ?_ ?_)
   | (with_reducible refine LeO.bind ?_ (fun _ => ?_))
   | exact laws_markIntS.mono _ _ _
   | exact LeO.none _
   | refine LeO.ite ?_ ?_
   | refine LeO.bind ?_ (fun _ => ?_)
set_option maxHeartbeats 64000000 in
set_option maxRecDepth 100000 in
theorem laws_markRoster.calls (k : Nat) (P0_0_ : Nat → Prop) (u9000_ : Value) (l0_0 : List Int) (a0_1 : Int) (a1 : Int) (r1 : Int) (r2 : List Int) (w0 w : World) (hB : Below w0.heap.size w0 w) (ho0_0 : Kd.R (Kd.int .i64) 3 w w0.heap.size P0_0_ u9000_ l0_0) (h : laws_markRoster.f k l0_0 a0_1 a1 = some (r1, r2)) :
  Calls Try.prog 53 #[.agg #[u9000_, .int .i64 a0_1], .int .i64 a1] w fun e w' => e = .returned (.int .i64 r1) ∧ Kd.R (Kd.int .i64) 3 w' w0.heap.size (fun k_ => (P0_0_ k_ ∨ w.heap.size ≤ k_)) u9000_ r2 ∧ Below w0.heap.size w0 w' ∧ Kept w w' (fun k_ => P0_0_ k_) := by
 have hu64 := Try.underlying64
 obtain ⟨HO0_0, HK, HW0, HB⟩ := zD4 (show Kd.R (Kd.int .i64) 3 w w0.heap.size (fun k_ => (P0_0_ k_ ∨ w.heap.size ≤ k_)) u9000_ l0_0 from zx ho0_0 (fun k_ hk => (.inl hk))) (Kept.refl w (fun k_ => P0_0_ k_)) hB.size hB
 clear hB
 have H : ((laws_markIntS.f k l0_0 a1).bind fun bt323 => (some (bt323.1, bt323.2))) = some (r1, r2) := h
 clear h
 replace H := Option.bind_eq_some_iff.mp H
 obtain ⟨⟨t323, t324⟩, A30, H⟩ := H
 replace H : (some (t323, t324)) = some (r1, r2) := H
 have A3 := zb A30
 clear A30
 simp only [Option.some.injEq, Prod.mk.injEq] at H
 obtain ⟨rfl, rfl⟩ := H
 obtain ⟨Ao4, co4, eo4⟩ := zaf HO0_0.out
 subst eo4
 go_enter Try.func53, Try.ntmps53
 go_wp2_with (first | ((with_reducible refine gate_dst (N := 2) rfl ?_); refine box_event ?hg (N := 2) ?hd (cs := #[.slice Ao4 l0_0.length co4, .int .i64 a0_1]) (t := 64) ?hr ?_; (case hd => rfl); (case hg => rfl); (case hr => exact zH117); intro gb322 hg w5 hbox hb; have n_ := zA_ (zb (zr (by (with_reducible repeat (first | apply zl | apply zm | apply zn)); exact HO0_0.out) hb)) (zA_ (zb (Kept.below (S := (fun k_ => P0_0_ k_)) zK191 hb)) (zA_ (zb (zp zG77 hb)) (zA_ (zb (hbox)) (zA_ (zN1 w.heap.size hg (by first | exact HK.out.1 | exact (show Kept w _ (fun k_ => P0_0_ k_) from by repeat (first | (with_reducible first | exact HK.out | apply Kept.alloc | apply Kept.drewN | apply Kept.drew) | exact HK.out)).1)) (zN1 w0.heap.size hg (zo zG77)))))); clear HO0_0 HK HB; obtain ⟨HO0_0, HK, HB, BK322, GW322, GE322⟩ := n_; clear hb hbox hg; obtain ⟨hcz6_0, hcz6_1, hfz6_0, hfz6_1⟩ := zB2 BK322.out) | ((with_reducible refine gate_callee (f := 74) rfl ?_); refine goesL_ (some 8) rfl rfl Try.func74 zG101 rfl #[.slice Ao4 l0_0.length co4, .int .i64 a1] rfl zG67 ?_; (with_reducible refine (laws_markIntS.calls k (fun k_ => some k_ = (.slice Ao4 l0_0.length co4 : Value).ownBlock) (.slice Ao4 l0_0.length co4) l0_0 a1 t323 t324 w0 _ ?side1 ?side2 A3.out).mono ?_); (case side1 => repeat (first | (with_reducible first | exact HB.out | apply ze | apply zc | apply zd | refine zh ?_ GE322.out) | exact HB.out)); (case side2 => exact zas rfl HO0_0.out); rintro e w7 ⟨rfl, hy0, hb, hkp⟩; refine ⟨_, rfl, ?_⟩; have n_ := zA_ (zb (zbc rfl hy0 (fun k_ e_ => HO0_0.out.1 k_ e_))) (zA_ (zb (zan (by (with_reducible repeat (first | refine zf ?_ _ | refine zi ?_ | refine zg ?_ _)); exact BK322.out) hkp (fun hs_ => (fun e_ => (zaq HO0_0.out BK322.out (by decide)) e_) hs_))) (zA_ (zb (Kept.then_ (S := (fun k_ => P0_0_ k_)) (by repeat (first | (with_reducible first | exact HK.out | apply Kept.alloc | apply Kept.drewN | apply Kept.drew | refine Kept.setCell ?_ (.inr GW322.out) _) | exact HK.out)) hkp (fun k_ hs_ => (fun e_ => (HO0_0.out.1 k_ e_.symm)) hs_))) (zb (hb)))); clear HO0_0 BK322 HK HB; obtain ⟨HO0_0, BK322, HK, HB⟩ := n_; (try clear hb); (try clear hkp); (try clear hy0)))
 go_ret
 exact ⟨zH104, by (with_reducible repeat (first | apply zl | apply zm | apply zn)); exact HO0_0.out, by repeat (first | (with_reducible first | exact HB.out | apply ze | apply zc | apply zd | refine zh ?_ GE322.out) | exact HB.out), by repeat (first | (with_reducible first | exact HK.out | apply Kept.alloc | apply Kept.drewN | apply Kept.drew | refine Kept.setCell ?_ (.inr GW322.out) _) | exact HK.out)⟩

/-! ### laws_heldIntS: function 75 -/
def laws_heldIntS.l0 : Nat → List Int → Int → Int → Option (Int)
 | 0, _, _, _ => none
 | k + 1, x0, x1, x5 => if x5 < (x0.length : Int) then (if 0 ≤ x5 then (if (rd x0 x5) = x1 then (laws_heldIntS.l0 k x0 (wrap64 (x1 + 1)) (wrap64 (x5 + 1))) else (some (-1))) else (none)) else (some x1)
def laws_heldIntS.f (k : Nat) (l0 : List Int) (a1 : Int) : Option (Int) := laws_heldIntS.l0 k l0 a1 0
theorem laws_heldIntS.mono_l : ∀ k, (∀ y0 y1 y2, LeO (laws_heldIntS.l0 k y0 y1 y2) (laws_heldIntS.l0 (k + 1) y0 y1 y2))
 | 0 => fun _ _ _ r h => by simp [laws_heldIntS.l0] at h
 | k + 1 => by
  have ih0 := laws_heldIntS.mono_l k
  ·intro y0 y1 y2
   unfold laws_heldIntS.l0
   repeat' first
   | (with_reducible exact ih0 _ _ _)
   | (with_reducible exact LeO.refl _)
   | (with_reducible exact LeO.none _)
   | (with_reducible refine LeO.ite ?_ ?_)
   | (with_reducible refine LeO.bind ?_ (fun _ => ?_))
   | exact ih0 _ _ _
   | exact LeO.none _
   | refine LeO.ite ?_ ?_
   | refine LeO.bind ?_ (fun _ => ?_)
theorem laws_heldIntS.mono : ∀ a0 a1 k, LeO (laws_heldIntS.f k a0 a1) (laws_heldIntS.f (k + 1) a0 a1) := by
 intro a0 a1 k
 have ih0 := laws_heldIntS.mono_l k
 unfold laws_heldIntS.f
 repeat' first
   | (with_reducible exact ih0 _ _ _)
   | (with_reducible exact LeO.refl _)
   | (with_reducible exact LeO.none _)
   | (with_reducible refine LeO.ite ?_ ?_)
   | (with_reducible refine LeO.bind ?_ (fun _ => ?_))
   | exact ih0 _ _ _
   | exact LeO.none _
   | refine LeO.ite ?_ ?_
   | refine LeO.bind ?_ (fun _ => ?_)
set_option maxHeartbeats 64000000 in
set_option maxRecDepth 100000 in
theorem laws_heldIntS.calls (k : Nat) (A0 : Option Addr) (c0 : Nat) (l0 : List Int) (a1 : Int) (r : Int) (w : World) (hr0 : Kd.C (Kd.int .i64) w A0 l0.length l0) (hc0 : l0.length ≤ c0) (h : laws_heldIntS.f k l0 a1 = some r) :
  Calls Try.prog 75 #[.slice A0 l0.length c0, .int .i64 a1] w fun e w' => e = .returned (.int .i64 r) ∧ Drawn0 w w' := by
 obtain ⟨HR0, HC0⟩ := zD2 hr0 hc0
 clear hr0 hc0
 have H : (laws_heldIntS.l0 k l0 a1 0) = some r := h
 clear h
 have H' := zb H
 clear H
 go_enter Try.func75, Try.ntmps75
 go_wp2
 go_loopg [1, 5] k (fun kq v1 v5 w' => ∃ (x1_1 : Int) (x5_1 : Int), v1 = .int .i64 x1_1 ∧ v5 = .int .i64 x5_1 ∧ Aside0 (laws_heldIntS.l0 kq l0 x1_1 x5_1 = some r) ∧ Aside0 (kq ≤ k) ∧ Drawn0 w w')
 case atStart => exact ⟨(a1), (0), zG100, zG100, H', ⟨Nat.le_refl _⟩, zH112⟩
 case round =>
  clear H'
  obtain ⟨x1_1, x5_1, rfl, rfl, HA, HK1, ⟨m1, rfl⟩⟩ := hrel
  cases gk with
  | zero => exact absurd HA.out (by simp [laws_heldIntS.l0])
  | succ k1 =>
   have H := HA.out
   clear HA
   simp only [laws_heldIntS.l0] at H
   by_cases c3 : x5_1 < (l0.length : Int)
   rotate_left
   ·rw [if_neg c3] at H
    have c3b0 := decide_eq_false c3
    clear c3
    obtain rfl := Option.some.inj H
    go_wp2
    go_ret
    exact zH78

   rw [if_pos c3] at H
   have c3b0 := decide_eq_true c3
   clear c3
   by_cases c4 : 0 ≤ x5_1
   rotate_left
   ·rw [if_neg c4] at H
    exact absurd H (by simp)
   rw [if_pos c4] at H
   have c4b0 := decide_eq_true c4
   clear c4
   by_cases c5 : (rd l0 x5_1) = x1_1
   rotate_left
   ·rw [if_neg c5] at H
    have c5b0 : ((rd l0 x5_1) == x1_1) = false := beq_eq_false_iff_ne.mpr c5
    have c5b1 : ((rd l0 x5_1) != x1_1) = true := bne_iff_ne.mpr c5
    obtain rfl := Option.some.inj H
    have p325 : 0 ≤ (x5_1 : Int) := zO
    have q325 : x5_1 < (l0.length : Int) := zO
    obtain ⟨ad325, e325, hx325_0⟩ := zap HR0.out x5_1 p325 q325
    cases e325
    replace p325 := eq_true p325
    replace q325 := eq_true q325
    go_wp2
    go_ret
    exact zH78
   rw [if_pos c5] at H
   have c5b0 : ((rd l0 x5_1) == x1_1) = true := beq_iff_eq.mpr c5
   have c5b1 : ((rd l0 x5_1) != x1_1) = false := bne_eq_false_iff_eq.mpr c5
   clear c5
   have H' := zb H
   clear H
   have p325 : 0 ≤ (x5_1 : Int) := zO
   have q325 : x5_1 < (l0.length : Int) := zO
   obtain ⟨ad325, e325, hx325_0⟩ := zap HR0.out x5_1 p325 q325
   cases e325
   replace p325 := eq_true p325
   replace q325 := eq_true q325
   go_wp2
   go_roundg k1
   case measure => have := HK1.out; omega
   case rel => exact ⟨(wrap64 (x1_1 + 1)), (wrap64 (x5_1 + 1)), zG100, zG100, H', ⟨zH120⟩, zH112⟩
/-! ### laws_heldRoster: function 54 -/
def laws_heldRoster.f (k : Nat) (l0_0 : List Int) (a0_1 : Int) (a1 : Int) : Option (Int) := (laws_heldIntS.f k l0_0 a1).bind fun t327 => (if t327 < 0 then (some (-1)) else (some t327))
theorem laws_heldRoster.mono : ∀ a0 a1 a2 k, LeO (laws_heldRoster.f k a0 a1 a2) (laws_heldRoster.f (k + 1) a0 a1 a2) := by
 intro a0 a1 a2 k
 unfold laws_heldRoster.f
 repeat' first
   | (with_reducible exact laws_heldIntS.mono _ _ _)
   | (with_reducible exact LeO.refl _)
   | (with_reducible exact LeO.none _)
   | (with_reducible refine LeO.ite ?_ ?_)
   | (with_reducible refine LeO.bind ?_ (fun _ => ?_))
   | exact laws_heldIntS.mono _ _ _
   | exact LeO.none _
   | refine LeO.ite ?_ ?_
   | refine LeO.bind ?_ (fun _ => ?_)
set_option maxHeartbeats 64000000 in
set_option maxRecDepth 100000 in
theorem laws_heldRoster.calls (k : Nat) (A0_0 : Option Addr) (c0_0 : Nat) (l0_0 : List Int) (a0_1 : Int) (a1 : Int) (r : Int) (w : World) (hr0_0 : Kd.C (Kd.int .i64) w A0_0 l0_0.length l0_0) (hc0_0 : l0_0.length ≤ c0_0) (h : laws_heldRoster.f k l0_0 a0_1 a1 = some r) :
  Calls Try.prog 54 #[.agg #[.slice A0_0 l0_0.length c0_0, .int .i64 a0_1], .int .i64 a1] w fun e w' => e = .returned (.int .i64 r) ∧ Below w.heap.size w w' := by
 have hu64 := Try.underlying64
 obtain ⟨HR0_0, HC0_0, HB⟩ := zD3 hr0_0 hc0_0 (Below.refl w.heap.size w)
 clear hr0_0 hc0_0
 have H : ((laws_heldIntS.f k l0_0 a1).bind fun t327 => (if t327 < 0 then (some (-1)) else (some t327))) = some r := h
 clear h
 replace H := Option.bind_eq_some_iff.mp H
 obtain ⟨t327, A30, H⟩ := H
 replace H : (if t327 < 0 then (some (-1)) else (some t327)) = some r := H
 have A3 := zb A30
 clear A30
 by_cases c4 : t327 < 0
 ·rw [if_pos c4] at H
  have c4b0 := decide_eq_true c4
  clear c4
  obtain rfl := Option.some.inj H
  go_enter Try.func54, Try.ntmps54
  go_wp2_with (first | ((with_reducible refine gate_dst (N := 2) rfl ?_); refine box_event ?hg (N := 2) ?hd (cs := #[.slice A0_0 l0_0.length c0_0, .int .i64 a0_1]) (t := 64) ?hr ?_; (case hd => rfl); (case hg => rfl); (case hr => exact zH117); intro gb326 hg w5 hbox hb; have n_ := zA_ (zb (zp zG77 hb)) (zA_ (zb (hbox)) (zA_ (zN1 w.heap.size hg (zo zG77)) (zN1 w.heap.size hg (zo zG77)))); clear HB; obtain ⟨HB, BK326, GW326, GE326⟩ := n_; clear hb hbox hg; obtain ⟨hcz6_0, hcz6_1, hfz6_0, hfz6_1⟩ := zB2 BK326.out) | ((with_reducible refine gate_callee (f := 75) rfl ?_); refine goesL_ (some 8) rfl rfl Try.func75 zG101 rfl #[.slice A0_0 l0_0.length c0_0, .int .i64 a1] rfl zG67 ?_; (with_reducible refine (laws_heldIntS.calls k _ _ l0_0 a1 t327 _ ?side1 ?side2 A3.out).mono ?_); (case side1 => exact zH57); (case side2 => exact HC0_0.out); rintro e w' ⟨rfl, ⟨nd, rfl⟩⟩; refine ⟨_, rfl, ?_⟩))
  go_ret
  exact zH26
 rw [if_neg c4] at H
 have c4b0 := decide_eq_false c4
 clear c4
 obtain rfl := Option.some.inj H
 go_enter Try.func54, Try.ntmps54
 go_wp2_with (first | ((with_reducible refine gate_dst (N := 2) rfl ?_); refine box_event ?hg (N := 2) ?hd (cs := #[.slice A0_0 l0_0.length c0_0, .int .i64 a0_1]) (t := 64) ?hr ?_; (case hd => rfl); (case hg => rfl); (case hr => exact zH117); intro gb326 hg w7 hbox hb; have n_ := zA_ (zb (zp zG77 hb)) (zA_ (zb (hbox)) (zA_ (zN1 w.heap.size hg (zo zG77)) (zN1 w.heap.size hg (zo zG77)))); clear HB; obtain ⟨HB, BK326, GW326, GE326⟩ := n_; clear hb hbox hg; obtain ⟨hcz8_0, hcz8_1, hfz8_0, hfz8_1⟩ := zB2 BK326.out) | ((with_reducible refine gate_callee (f := 75) rfl ?_); refine goesL_ (some 8) rfl rfl Try.func75 zG101 rfl #[.slice A0_0 l0_0.length c0_0, .int .i64 a1] rfl zG67 ?_; (with_reducible refine (laws_heldIntS.calls k _ _ l0_0 a1 t327 _ ?side1 ?side2 A3.out).mono ?_); (case side1 => exact zH57); (case side2 => exact HC0_0.out); rintro e w' ⟨rfl, ⟨nd, rfl⟩⟩; refine ⟨_, rfl, ?_⟩))
 go_ret
 exact zH26

end Go.Proofs.Ytojncbpeeboooaa.U
