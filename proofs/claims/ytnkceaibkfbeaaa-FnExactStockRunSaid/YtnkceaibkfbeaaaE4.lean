-- squeezed
-- made by pp.py (wip/tools) out of the translation; Lean checks it
import Derived.Deep.RegionLaw
import Derived.Test.YtnkceaibkfbeaaaE0
import Derived.Test.YtnkceaibkfbeaaaE1
import Derived.Test.YtnkceaibkfbeaaaE3
namespace Go.Proofs.Ytnkceaibkfbeaaa.E
open Go.RowKit Go.Proofs.YtnkceaibkfbeaaaW.PrintWords Go.Proofs.YtnkceaibkfbeaaaW.PrintLast Go.Proofs.YtnkceaibkfbeaaaW.PrintMore
attribute [local go_sem] max2_int min2_int max_two min_two max_three min_three max_four min_four   -- for this text's walks alone
set_option linter.unusedVariables false
set_option linter.unusedSimpArgs false

abbrev q4a := @Kd.R_reads'
/-! ### impl_Stock_do: function 24 -/
theorem R_clear {α : Type} {d : Kd α} {e g n cap base m : Nat} {ok : Nat → Prop} {W : World} {xs : List α} (h : d.R e W base ok (.slice (some ⟨g, 0, none⟩) n cap) xs) (hm : m ≤ xs.length) (vs : List Value) (hv : m * d.sz + vs.length ≤ n * d.sz) :
  d.R e (W.setCells g (m * d.sz) vs) base ok (.slice (some ⟨g, 0, none⟩) m cap) (xs.take m) ∧ W.grownBy (W.setCells g (m * d.sz) vs) (some g) := by
 obtain ⟨hn0, hnc0, _⟩ := q4a h
 obtain ⟨hok, inner, ho, hr⟩ := Kd.R_take h hm
 obtain ⟨ho1, ho2⟩ := ho
 rcases ho2 with ⟨hv', _⟩ | ⟨g', cap', cur, hv', hb, hh, hnc', hcm, hcs, ht⟩
 ·cases hv'
 injection hv' with ha hlen hc
 injection ha with ha
 injection ha with hg
 subst hg; subst hc
 have hfit : m * d.sz + vs.length ≤ cur.size := by
  have : n * d.sz ≤ cap * d.sz := Nat.mul_le_mul_right _ hnc0
  omega
 obtain ⟨cur', h3, h4, h5⟩ := setCells_row vs (m * d.sz) W cur hh hfit
 obtain ⟨s1, s2, s3, s4⟩ := setCells_same g vs (m * d.sz) W
 have hfar : ∀ k, k ≠ g → (W.setCells g (m * d.sz) vs).heap[k]? = W.heap[k]? := fun k hk => setCells_far vs _ k hk
 have hlm : (xs.take m).length = m := by rw [List.length_take, Nat.min_eq_left hm]
 refine ⟨⟨hok, inner, ⟨ho1, .inr ⟨g, cap, cur', by rw [hlm], hb, h3, hnc', hcm, by rw [h4, hcs], ?_⟩⟩, ?_⟩,
  ⟨s1, s2, s3, by rw [s4]; exact Nat.le_refl _, fun k _ hk => hfar k (fun he => hk (by rw [he]))⟩⟩
 ·rw [h5, ← ht, hlm]
  rw [List.append_assoc, List.take_append_of_le_length (by rw [List.length_take, Array.length_toList]; omega), List.take_take, Nat.min_self]
 ·exact zH27
theorem zc_len (z : Value) (n : Nat) : (Builtin.zeroCells z.cells n).toList.length = n * z.cells.size := by
 simp [Builtin.zeroCells]
theorem zc_one (z : Value) (h1 : ∀ v ∈ z.cells.toList, v.oneCell' = true) (n : Nat) : ∀ v ∈ (Builtin.zeroCells z.cells n).toList, v.oneCell' = true := by
 intro v hv
 rw [Builtin.zeroCells, Array.toList_map, List.mem_map] at hv
 obtain ⟨i, hi, rfl⟩ := hv
 rw [Array.toList_range, List.mem_range] at hi
 have hp : 0 < z.cells.size := by
  rcases Nat.eq_zero_or_pos z.cells.size with h | h
  ·rw [h, Nat.mul_zero] at hi; omega
  ·exact h
 have hlt : i % z.cells.size < z.cells.size := Nat.mod_lt _ hp
 apply h1
 rw [getElem!_pos z.cells (i % z.cells.size) hlt]
 simp
theorem run_clear_rows {P : Program} (w : World) (t e ty : TypeId) (z : Value) (ht : P.underlying t = some (.slice e)) (hv : ∀ w, (zeroValue e).run P w = .ok z w) (h1 : ∀ v ∈ z.cells.toList, v.oneCell' = true) (b o n c : Nat) (hn : 0 < n)
  (hc : ∀ j, j < n * z.cells.size → (w.cell? ⟨b, o + j, none⟩).isSome = true) (hf : ∀ j, j < n * z.cells.size → w.frozen? ⟨b, o + j, none⟩ = false) :
  (Builtin.clear_ #[t] ty #[.slice (some ⟨b, o, none⟩) n c]).run P w = .ok (.tuple #[]) (w.setCells b o (Builtin.zeroCells z.cells n).toList) := by
 have hst := run_storeCells_cells (P := P) b o (Builtin.zeroCells z.cells n).toList 0 w (by rw [zc_len]; simpa using hc) (by rw [zc_len]; simpa using hf) (zc_one z h1 n)
 simp only [Nat.add_zero] at hst
 obtain ⟨m, rfl⟩ : ∃ m, n = m + 1 := ⟨n - 1, by omega⟩
 simp [Builtin.clear_, run_underlying ht, hv, hst]
theorem set_self {β : Type} {L : List β} {i : Nat} {x : β} (h : L[i]? = some x) : L.set i x = L := by
 apply List.ext_getElem?
 intro k
 rw [List.getElem?_set]
 split
 ·rename_i hk
  subst hk
  rw [if_pos (List.getElem?_eq_some_iff.1 h).1, h]
 ·rfl
theorem size_set (w : World) (p : Addr) (v : Value) : (w.setCell p v).heap.size = w.heap.size := World.size_setCell w p v
structure Bag {α : Type} (d : Kd α) (e : Nat) (w0 w : World) (P : Nat → Prop) (gi : Nat) (u : Value) (l : List α) (L : List (Nat × Array Value × TypeId)) (w' : World) : Prop where
 below : Below w0.heap.size w0 w'
 kept : Kept w w' (fun k => P k ∨ k = gi)
 row : d.R e w' w0.heap.size P u l
 blks : ∀ b, b ∈ L → w'.heap[b.1]? = some (.cells b.2.1 b.2.2 (0, 0)) ∧ ¬ P b.1 ∧ (b.1 = gi ∨ w.heap.size ≤ b.1)
 nodup : (L.map (·.1)).Nodup
 ge : w0.heap.size ≤ gi
 base : w0.heap.size ≤ w.heap.size
 lt : ∀ k, P k → k < w'.heap.size
section
variable {α : Type} {d : Kd α} {e : Nat} {w0 w : World} {P : Nat → Prop} {gi : Nat} {u : Value} {l : List α} {L : List (Nat × Array Value × TypeId)} {w' W : World}
theorem Bag.get (h : Bag d e w0 w P gi u l L w') (i : Nat) {g : Nat} {cs : Array Value} {t : TypeId} (hi : L[i]? = some (g, cs, t)) : w'.heap[g]? = some (.cells cs t (0, 0)) :=
 (h.blks _ (List.mem_of_getElem? hi)).1
theorem Bag.cell (h : Bag d e w0 w P gi u l L w') (i : Nat) {g : Nat} {cs : Array Value} {t : TypeId} (hi : L[i]? = some (g, cs, t)) (j : Nat) : w'.cell? ⟨g, j, none⟩ = cs[j]? := blk_cell (h.get i hi) j
theorem Bag.froz (h : Bag d e w0 w P gi u l L w') (i : Nat) {g : Nat} {cs : Array Value} {t : TypeId} (hi : L[i]? = some (g, cs, t)) (j : Nat) : w'.frozen? ⟨g, j, none⟩ = false := zc (h.get i hi) j
theorem Bag.go (h : Bag d e w0 w P gi u l L w') (hb : Below w'.heap.size w' W) : Bag d e w0 w P gi u l L W :=
 ⟨below_weaken h.below h.below.size hb, h.kept.below hb, zo h.row hb, fun b hm => ⟨zq (h.blks b hm).1 hb, (h.blks b hm).2⟩, h.nodup, h.ge, h.base, fun k hk => Nat.lt_of_lt_of_le (h.lt k hk) hb.size⟩
theorem Bag.drew (h : Bag d e w0 w P gi u l L w') : Bag d e w0 w P gi u l L w'.drew := h.go (zh (Below.refl _ _))
theorem Bag.drewN (h : Bag d e w0 w P gi u l L w') (n : Nat) : Bag d e w0 w P gi u l L (w'.drewN n) := h.go (zd (Below.refl _ _) n)
theorem Bag.box (h : Bag d e w0 w P gi u l L w') {g : Nat} {cs : Array Value} {t : TypeId} (hg : g = w'.heap.size) (hn : W.heap[g]? = some (.cells cs t (0, 0))) (hb : Below w'.heap.size w' W) : Bag d e w0 w P gi u l ((g, cs, t) :: L) W := by
 have h' := h.go hb
 refine ⟨h'.below, h'.kept, h'.row, ?_, ?_, h.ge, h.base, h'.lt⟩
 ·intro b hm
  rcases List.mem_cons.1 hm with rfl | hm
  ·refine ⟨hn, fun hp => ?_, .inr ?_⟩
   ·have := h.lt _ hp; simp only at *; omega
   ·have := h.kept.1; simp only; omega
  ·exact h'.blks b hm
 ·rw [List.map_cons, List.nodup_cons]
  refine ⟨fun hm => ?_, h.nodup⟩
  obtain ⟨b, hb1, hb2⟩ := List.mem_map.1 hm
  have := zv (h.blks b hb1).1
  simp only at hb2
  omega
theorem Bag.put (h : Bag d e w0 w P gi u l L w') (i j : Nat) (v : Value) {g : Nat} {cs cs' : Array Value} {t : TypeId} (hi : L[i]? = some (g, cs, t)) (hc : cs.setIfInBounds j v = cs') : Bag d e w0 w P gi u l (L.set i (g, cs', t)) (w'.setCell ⟨g, j, none⟩ v) := by
 have hm := List.mem_of_getElem? hi
 obtain ⟨h1, h2, h3⟩ := h.blks _ hm
 have hge : w0.heap.size ≤ g := by
  rcases h3 with h3 | h3
  ·have := h.ge; simp only at h3; omega
  ·have := h.base; simp only at h3; omega
 refine ⟨zj h.below hge, Kept.setCell (p := ⟨g, j, none⟩) h.kept (h3.imp (fun h => .inr h) id) v, zm h.row (p := ⟨g, j, none⟩) (fun k hk he => h2 (by have he' : k = g := he; exact he' ▸ hk)) v, ?_, ?_, h.ge, h.base, fun k hk => by rw [show (w'.setCell ⟨g, j, none⟩ v).heap.size = w'.heap.size from size_set w' _ v]; exact h.lt k hk⟩
 ·intro b hb
  obtain ⟨k, hk⟩ := List.getElem?_of_mem hb
  rw [List.getElem?_set] at hk
  by_cases hki : i = k
  ·subst hki
   have hlt : i < L.length := (List.getElem?_eq_some_iff.1 hi).1
   rw [if_pos rfl, if_pos hlt] at hk
   injection hk with hk
   subst hk
   exact ⟨zu h1 j v hc, h2, h3⟩
  ·rw [if_neg hki] at hk
   obtain ⟨q1, q2, q3⟩ := h.blks b (List.mem_of_getElem? hk)
   refine ⟨zt q1 (p := ⟨g, j, none⟩) (fun he => hki ?_) v, q2, q3⟩
   have hn := h.nodup
   have a1 : (L.map (·.1))[i]? = some g := by rw [List.getElem?_map, hi]; rfl
   have a2 : (L.map (·.1))[k]? = some g := by rw [List.getElem?_map, hk]; exact congrArg some he
   have hlt : i < (L.map (·.1)).length := (List.getElem?_eq_some_iff.1 a1).1
   exact (List.getElem?_inj hlt hn).1 (a1.trans a2.symm)
 ·have : (L.set i (g, cs', t)).map (·.1) = L.map (·.1) := by
   rw [List.map_set]
   have a1 : (L.map (·.1))[i]? = some g := by rw [List.getElem?_map, hi]; rfl
   exact set_self a1
  rw [this]
  exact h.nodup
theorem Bag.mk0 (hB : Below w0.heap.size w0 w) {cs : Array Value} {t : TypeId} (hbk : w.heap[gi]? = some (.cells cs t (0, 0))) (hge : w0.heap.size ≤ gi) (ho : d.R e w w0.heap.size P u l) (ht : ∀ q, q ∈ e :: d.E → q ≠ t) :
  Bag d e w0 w (fun k => P k ∧ k < w.heap.size ∧ k ≠ gi) gi u l [(gi, cs, t)] w :=
 ⟨hB, Kept.refl _ _, zs (zay (zw ho hbk ht)) (fun k hk => ⟨hk.1.1, hk.2.2.1, hk.1.2⟩), fun b hm => by
  rcases List.mem_singleton.1 hm with rfl
  exact ⟨hbk, fun h => h.2.2 rfl, .inl rfl⟩, by simp, hge, hB.size, fun k hk => hk.2.1⟩
theorem Bag.notin (h : Bag d e w0 w P gi u l L w') (i : Nat) {g : Nat} {cs : Array Value} {t : TypeId} (hi : L[i]? = some (g, cs, t)) : ¬ P g := (h.blks _ (List.mem_of_getElem? hi)).2.1
/-- Behind a store into the row. -/
theorem Bag.rowput (h : Bag d e w0 w P gi u l L w') {g j : Nat} {v : Value} {l' : List α} (hr : d.R e (w'.setCell ⟨g, j, none⟩ v) w0.heap.size P u l') (hg : w0.heap.size ≤ g) (hp : P g) : Bag d e w0 w P gi u l' L (w'.setCell ⟨g, j, none⟩ v) :=
 ⟨zj h.below hg, Kept.setCell (p := ⟨g, j, none⟩) h.kept (.inl (.inl hp)) v, hr, fun b hb => by
  obtain ⟨q1, q2, q3⟩ := h.blks b hb
  exact ⟨zt q1 (p := ⟨g, j, none⟩) (fun he => q2 (by have he' : b.1 = g := he; exact he' ▸ hp)) v, q2, q3⟩, h.nodup, h.ge, h.base, fun k hk => by rw [show (w'.setCell ⟨g, j, none⟩ v).heap.size = w'.heap.size from size_set w' _ v]; exact h.lt k hk⟩
/-- The same bag for more blocks of the row. -/
theorem Bag.widen (h : Bag d e w0 w P gi u l L w') {P' : Nat → Prop} (hp : ∀ k, P k → P' k) (hn : ∀ b, b ∈ L → ¬ P' b.1) (hl : ∀ k, P' k → k < w'.heap.size) : Bag d e w0 w P' gi u l L w' :=
 ⟨h.below, h.kept.mono (fun k hk => hk.imp (hp k) id), zs h.row hp, fun b hb => ⟨(h.blks b hb).1, hn b hb, (h.blks b hb).2.2⟩, h.nodup, h.ge, h.base, hl⟩
/-- Behind a call that writes the row and the state's block. -/
theorem Bag.call (h : Bag d e w0 w P gi u l L w') {u' : Value} {l' : List α} (i : Nat) {cs cs' : Array Value} {t : TypeId} (hi : L[i]? = some (gi, cs, t)) (hb : Below w0.heap.size w0 W) (hk : Kept w' W (fun k => P k ∨ k = gi)) (hr : d.R e W w0.heap.size P u' l') (hc : W.heap[gi]? = some (.cells cs' t (0, 0))) :
  Bag d e w0 w P gi u' l' (L.set i (gi, cs', t)) W := by
 refine ⟨hb, h.kept.then_ hk (fun k hk => .inl hk), hr, ?_, ?_, h.ge, h.base, fun k hk' => Nat.lt_of_lt_of_le (h.lt k hk') hk.1⟩
 ·intro b hb'
  obtain ⟨k, hk'⟩ := List.getElem?_of_mem hb'
  rw [List.getElem?_set] at hk'
  by_cases hki : i = k
  ·subst hki
   have hlt : i < L.length := (List.getElem?_eq_some_iff.1 hi).1
   rw [if_pos rfl, if_pos hlt] at hk'
   injection hk' with hk'
   subst hk'
   exact ⟨hc, (h.blks _ (List.mem_of_getElem? hi)).2⟩
  ·rw [if_neg hki] at hk'
   obtain ⟨q1, q2, q3⟩ := h.blks b (List.mem_of_getElem? hk')
   refine ⟨zab q1 hk (fun hh => ?_), q2, q3⟩
   rcases hh with hh | hh
   ·exact q2 hh
   ·apply hki
    have hn := h.nodup
    have a1 : (L.map (·.1))[i]? = some gi := by rw [List.getElem?_map, hi]; rfl
    have a2 : (L.map (·.1))[k]? = some gi := by rw [List.getElem?_map, hk']; exact congrArg some hh
    have hlt : i < (L.map (·.1)).length := (List.getElem?_eq_some_iff.1 a1).1
    exact (List.getElem?_inj hlt hn).1 (a1.trans a2.symm)
 ·have : (L.set i (gi, cs', t)).map (·.1) = L.map (·.1) := by
   rw [List.map_set]
   have a1 : (L.map (·.1))[i]? = some gi := by rw [List.getElem?_map, hi]; rfl
   exact set_self a1
  rw [this]
  exact h.nodup
/-- The same, where the row may lie in blocks that are new. -/
theorem Bag.call' (h : Bag d e w0 w P gi u l L w') {u' : Value} {l' : List α} (i : Nat) {cs cs' : Array Value} {t : TypeId} (hi : L[i]? = some (gi, cs, t)) (hb : Below w0.heap.size w0 W) (hk : Kept w' W (fun k => P k ∨ k = gi)) (hr : d.R e W w0.heap.size (fun k => P k ∨ w'.heap.size ≤ k) u' l') (hc : W.heap[gi]? = some (.cells cs' t (0, 0))) :
  Bag d e w0 w (fun k => (P k ∨ w'.heap.size ≤ k) ∧ k < W.heap.size) gi u' l' (L.set i (gi, cs', t)) W := by
 have hn : ∀ b, b ∈ L → ¬ ((P b.1 ∨ w'.heap.size ≤ b.1) ∧ b.1 < W.heap.size) := by
  rintro b hb ⟨hp | hp, _⟩
  ·exact (h.blks b hb).2.1 hp
  ·have := zv (h.blks b hb).1; omega
 have hr' : d.R e W w0.heap.size (fun k => (P k ∨ w'.heap.size ≤ k) ∧ k < W.heap.size) u' l' := zs (zay hr) (fun k hk => ⟨hk.1, hk.2.2.1⟩)
 have hsz := hk.1
 refine ⟨hb, (h.kept.then_ hk (fun k hk => .inl hk)).mono (fun k hk => ?_), hr', ?_, ?_, h.ge, h.base, fun k hk' => hk'.2⟩
 ·rcases hk with hk | hk
  ·exact .inl ⟨.inl hk, Nat.lt_of_lt_of_le (h.lt k hk) hsz⟩
  ·exact .inr hk
 ·intro b hb'
  obtain ⟨k, hk'⟩ := List.getElem?_of_mem hb'
  rw [List.getElem?_set] at hk'
  by_cases hki : i = k
  ·subst hki
   have hlt : i < L.length := (List.getElem?_eq_some_iff.1 hi).1
   rw [if_pos rfl, if_pos hlt] at hk'
   injection hk' with hk'
   subst hk'
   exact ⟨hc, fun hp => hn (gi, cs, t) (List.mem_of_getElem? hi) hp, .inl rfl⟩
  ·rw [if_neg hki] at hk'
   have hm := List.mem_of_getElem? hk'
   obtain ⟨q1, q2, q3⟩ := h.blks b hm
   refine ⟨zab q1 hk (fun hh => ?_), hn b hm, q3⟩
   rcases hh with hh | hh
   ·exact q2 hh
   ·apply hki
    have hn := h.nodup
    have a1 : (L.map (·.1))[i]? = some gi := by rw [List.getElem?_map, hi]; rfl
    have a2 : (L.map (·.1))[k]? = some gi := by rw [List.getElem?_map, hk']; exact congrArg some hh
    have hlt : i < (L.map (·.1)).length := (List.getElem?_eq_some_iff.1 a1).1
    exact (List.getElem?_inj hlt hn).1 (a1.trans a2.symm)
 ·have : (L.set i (gi, cs', t)).map (·.1) = L.map (·.1) := by
   rw [List.map_set]
   have a1 : (L.map (·.1))[i]? = some gi := by rw [List.getElem?_map, hi]; rfl
   exact set_self a1
  rw [this]
  exact h.nodup
/-- What is told at the end, in the shape of the printed contracts. -/
theorem Bag.fin (h : Bag d e w0 w P gi u l L w') {P0 : Nat → Prop} (hP : ∀ k, P k → P0 k ∨ w.heap.size ≤ k) (i : Nat) {cs : Array Value} {t : TypeId} (hi : L[i]? = some (gi, cs, t)) :
  d.R e w' w0.heap.size (fun k => P0 k ∨ w.heap.size ≤ k) u l ∧ w'.heap[gi]? = some (.cells cs t (0, 0)) ∧ Below w0.heap.size w0 w' ∧ Kept w w' (fun k => P0 k ∨ k = gi) :=
 ⟨zs h.row hP, h.get i hi, h.below, (Kept.refl w _).then_ h.kept (fun k hk => by
  rcases hk with hk | hk
  ·exact (hP k hk).imp .inl id
  ·exact .inl (.inr hk))⟩
end
theorem setCells_cons' (w : World) (g j : Nat) (v : Value) (vs : List Value) : w.setCells g j (v :: vs) = (w.setCell ⟨g, j, none⟩ v).setCells g (j + 1) vs := rfl
section
variable {α : Type} {d : Kd α} {e : Nat} {w0 w : World} {P : Nat → Prop} {gi : Nat} {u : Value} {l : List α} {L : List (Nat × Array Value × TypeId)} {w' W : World}
def putAll : Array Value → Nat → List Value → Array Value
 | cs, _, [] => cs
 | cs, j, v :: vs => putAll (cs.setIfInBounds j v) (j + 1) vs
theorem Bag.puts {i : Nat} {g : Nat} {t : TypeId} : ∀ (vs : List Value) (j : Nat) {L : List (Nat × Array Value × TypeId)} {w' : World} {cs : Array Value}, Bag d e w0 w P gi u l L w' → L[i]? = some (g, cs, t) → Bag d e w0 w P gi u l (L.set i (g, putAll cs j vs, t)) (w'.setCells g j vs)
 | [], j, L, w', cs, h, hi => by
  show Bag d e w0 w P gi u l (L.set i (g, cs, t)) w'
  rw [set_self hi]
  exact h
 | v :: vs, j, L, w', cs, h, hi => by
  have h1 := h.put i j v hi rfl
  have hlt : i < L.length := (List.getElem?_eq_some_iff.1 hi).1
  have h2 := Bag.puts vs (j + 1) h1 (by rw [List.getElem?_set_self hlt])
  rw [List.set_set] at h2
  exact h2
/-- A bag of a function of values: no state's block. -/
theorem Bag.mk1 (hB : Below w0.heap.size w0 w) (ho : d.R e w w0.heap.size P u l) : Bag d e w0 w (fun k => P k ∧ k < w.heap.size) w.heap.size u l [] w :=
 ⟨hB, Kept.refl _ _, zs (zay ho) (fun k hk => ⟨hk.1, hk.2.2.1⟩), fun b hm => (List.not_mem_nil hm).elim, List.nodup_nil, hB.size, hB.size, fun k hk => hk.2⟩
theorem Bag.finV (h : Bag d e w0 w P w.heap.size u l L w') {P0 : Nat → Prop} (hP : ∀ k, P k → P0 k ∨ w.heap.size ≤ k) :
  d.R e w' w0.heap.size (fun k => P0 k ∨ w.heap.size ≤ k) u l ∧ Below w0.heap.size w0 w' ∧ Kept w w' (fun k => P0 k) :=
 ⟨zs h.row hP, h.below, (Kept.refl w _).then_ h.kept (fun k hk => by
  rcases hk with hk | hk
  ·exact hP k hk
  ·exact .inr (Nat.le_of_eq hk.symm))⟩
/-- Behind a call that made a row. -/
theorem Bag.newrow (h : Bag d e w0 w P gi u l L w') {v : Value} {r : List α} (hr : d.R e W w'.heap.size (fun _ => True) v r) (hb : Below w'.heap.size w' W) : Bag d e w0 w (fun k => (P k ∨ w'.heap.size ≤ k) ∧ k < W.heap.size) gi v r L W := by
 have h' := h.go hb
 refine ⟨h'.below, h'.kept.mono (fun k hk => hk.imp (fun hk => ⟨.inl hk, h'.lt k hk⟩) id), zai (zs (zay hr) (fun k hk => ⟨.inr hk.2.1, hk.2.2.1⟩)) h.below.size, fun b hm => ⟨(h'.blks b hm).1, fun hp => ?_, (h'.blks b hm).2.2⟩, h'.nodup, h'.ge, h'.base, fun k hk => hk.2⟩
 rcases hp.1 with hp | hp
 ·exact (h'.blks b hm).2.1 hp
 ·have := zv (h.blks b hm).1
  omega
/-- Behind a call that hands the row on, or made one. -/
theorem Bag.handed (h : Bag d e w0 w P gi u l L w') {v : Value} {r : List α} (hr : d.R e W w0.heap.size (fun k => P k ∨ w'.heap.size ≤ k) v r) (hb : Below w0.heap.size w0 W) (hk : Kept w' W P) : Bag d e w0 w (fun k => (P k ∨ w'.heap.size ≤ k) ∧ k < W.heap.size) gi v r L W := by
 have hsz := hk.1
 have hn : ∀ b, b ∈ L → ¬ ((P b.1 ∨ w'.heap.size ≤ b.1) ∧ b.1 < W.heap.size) := by
  rintro b hb ⟨hp | hp, _⟩
  ·exact (h.blks b hb).2.1 hp
  ·have := zv (h.blks b hb).1; omega
 refine ⟨hb, (h.kept.then_ hk (fun k hk => .inl (.inl hk))).mono (fun k hk => hk.imp (fun hk => ⟨.inl hk, Nat.lt_of_lt_of_le (h.lt k hk) hsz⟩) id), zs (zay hr) (fun k hk => ⟨hk.1, hk.2.2.1⟩), fun b hm => ⟨zab (h.blks b hm).1 hk (h.blks b hm).2.1, hn b hm, (h.blks b hm).2.2⟩, h.nodup, h.ge, h.base, fun k hk => hk.2⟩
end
theorem run_store_struct {P : Program} {o : Oper} {ρ : Operand → Value} {w : World} {ty : TypeId} {p x : Operand} {g : Nat} {cs : Array Value} {t : TypeId} {vs : List Value} (ho : o.op = .store ty p x) (hu : (P.info? ty).map (·.size) = some cs.size) (hp : ρ p = .pointer (some ⟨g, 0, none⟩)) (hx : ρ x = .agg ⟨vs⟩) (hb : w.heap[g]? = some (.cells cs t (0, 0))) (hl : vs.length = cs.size) (h1 : vs.all (·.oneCell') = true) :
  (execOp ρ o).run P w = .ok .skip (w.setCells g 0 vs) := by
 have hst := run_storeCells_cells (P := P) g 0 vs 0 w (fun j hj => by rw [blk_cell hb, Array.getElem?_eq_getElem (by omega)]; rfl) (fun j _ => zc hb _) (fun v hv => List.all_eq_true.1 h1 v hv)
 obtain ⟨i, hi, he⟩ := Option.map_eq_some_iff.mp hu
 unfold execOp
 simp [ho, hp, hx, Instr.storeAt, storeVar, sizeOf, typeInfo, hi, he, Value.cells, hl, hst, Instr.sureAddr]
/-- A struct that is stored whole into a block: in a plain region, and in one that draws. -/
theorem store_struct {P : Program} {ops : Array Oper} {Q : Exit → Act → World → Prop} {rest : List Oper} {o : Oper} {a : Act} {w : World} {ty : TypeId} {p x : Operand} {g : Nat} {cs : Array Value} {t : TypeId} {vs : List Value} (hgd : o.guard = none) (hN : o.dst = none) (ho : o.op = .store ty p x) (hu : (P.info? ty).map (·.size) = some cs.size) (hp : a.eval p = .pointer (some ⟨g, 0, none⟩)) (hx : a.eval x = .agg ⟨vs⟩) (hb : w.heap[g]? = some (.cells cs t (0, 0))) (hl : vs.length = cs.size) (h1 : vs.all (·.oneCell') = true)
  (h : wpList P ops Q rest a (w.setCells g 0 vs)) : wpList P ops Q (o :: rest) a w := by
 refine wpList_plain hgd fun K hK => ?_
 unfold Oper.wp
 rw [run_store_struct ho hu hp hx hb hl h1]
 show K (a.put o.dst undef) _
 rw [hN]
 exact hK _ _ h
theorem store_step {P : Program} {ops : Array Oper} {Q : Exit → Act → World → Prop} {o : Oper} {a : Act} {w : World} {K : Act → World → Prop} {ty : TypeId} {p x : Operand} {g : Nat} {cs : Array Value} {t : TypeId} {vs : List Value} (hw : Region.wanted o (yielded ops a.tmps) = true) (hN : o.dst = none) (ho : o.op = .store ty p x) (hu : (P.info? ty).map (·.size) = some cs.size) (hp : a.eval p = .pointer (some ⟨g, 0, none⟩)) (hx : a.eval x = .agg ⟨vs⟩) (hb : w.heap[g]? = some (.cells cs t (0, 0))) (hl : vs.length = cs.size) (h1 : vs.all (·.oneCell') = true)
  (h : K (a.put none undef) (w.setCells g 0 vs)) : if Region.wanted o (yielded ops a.tmps) = true then Oper.wp P o a w K Q else K (a.put none undef) w :=
 skip_ hw hN (run_store_struct ho hu hp hx hb hl h1) h
/-- A box, a struct stored whole, as arms of a walk that carries a bag. -/
theorem box_bag {P : Program} {ops : Array Oper} {Qx : Exit → Act → World → Prop} {rest : List Oper} {o : Oper} {ac : Act} {α : Type} {d : Kd α} {e : Nat} {w0 w : World} {Pk : Nat → Prop} {gi : Nat} {u : Value} {l : List α} {L : List (Nat × Array Value × TypeId)} {W : World} (H : Bag d e w0 w Pk gi u l L W) (N : Tmp) (cs : Array Value) (t : TypeId) (hd : o.dst = some N)
  (h : ∀ g w1, Bag d e w0 w Pk gi u l ((g, cs, t) :: L) w1 → wpList P ops Qx rest (ac.put o.dst (.pointer (some ⟨g, 0, none⟩))) w1)
  (hgd : o.guard = none := by rfl) (hr : (execOp ac.eval o).run P W = .ok (.value (.pointer (some ⟨W.heap.size, 0, none⟩))) (W.alloc (.cells cs t (0, 0))) := by first | (go_simp; done) | (go_simp; rfl)) : wpList P ops Qx (o :: rest) ac W :=
 box_event hgd hd hr (fun g hg w1 hn hb => h g w1 (H.box hg hn hb))
theorem store_bag {P : Program} {ops : Array Oper} {Qx : Exit → Act → World → Prop} {rest : List Oper} {o : Oper} {ac : Act} {α : Type} {d : Kd α} {e : Nat} {w0 w : World} {Pk : Nat → Prop} {gi : Nat} {u : Value} {l : List α} {L : List (Nat × Array Value × TypeId)} {W : World} {ty : TypeId} {x : Operand} {g : Nat} {cs : Array Value} {t : TypeId} {vs : List Value} (H : Bag d e w0 w Pk gi u l L W) (i : Nat) (p : Tmp) (ho : o.op = .store ty (.tmp p) x)
  (h : ∀ w1, Bag d e w0 w Pk gi u l (L.set i (g, putAll cs 0 vs, t)) w1 → wpList P ops Qx rest ac w1)
  (hp : ac.eval (.tmp p) = .pointer (some ⟨g, 0, none⟩) := by rfl) (hx : ac.eval x = .agg ⟨vs⟩ := by rfl) (hi : L[i]? = some (g, cs, t) := by rfl) (hl : vs.length = cs.size := by rfl) (h1 : vs.all (·.oneCell') = true := by rfl) (hgd : o.guard = none := by rfl) (hN : o.dst = none := by rfl) (hu : (P.info? ty).map (·.size) = some cs.size := by kernel_rfl) : wpList P ops Qx (o :: rest) ac W :=
 store_struct hgd hN ho hu hp hx (H.get i hi) hl h1 (h _ (H.puts vs 0 hi))
theorem R_clear2 {α : Type} {d : Kd α} {e g n cap base m : Nat} {ok : Nat → Prop} {W : World} {xs : List α} (h : d.R e W base ok (.slice (some ⟨g, 0, none⟩) n cap) xs) (hm : m ≤ xs.length) (vs : List Value) (hv : m * d.sz + vs.length ≤ cap * d.sz) :
  d.R e (W.setCells g (m * d.sz) vs) base ok (.slice (some ⟨g, 0, none⟩) m cap) (xs.take m) ∧ W.grownBy (W.setCells g (m * d.sz) vs) (some g) := by
 obtain ⟨hn0, hnc0, _⟩ := q4a h
 obtain ⟨hok, inner, ho, hr⟩ := Kd.R_take h hm
 obtain ⟨ho1, ho2⟩ := ho
 rcases ho2 with ⟨hv', _⟩ | ⟨g', cap', cur, hv', hb, hh, hnc', hcm, hcs, ht⟩
 ·cases hv'
 injection hv' with ha hlen hc
 injection ha with ha
 injection ha with hg
 subst hg; subst hc
 have hfit : m * d.sz + vs.length ≤ cur.size := by
  omega
 obtain ⟨cur', h3, h4, h5⟩ := setCells_row vs (m * d.sz) W cur hh hfit
 obtain ⟨s1, s2, s3, s4⟩ := setCells_same g vs (m * d.sz) W
 have hfar : ∀ k, k ≠ g → (W.setCells g (m * d.sz) vs).heap[k]? = W.heap[k]? := fun k hk => setCells_far vs _ k hk
 have hlm : (xs.take m).length = m := by rw [List.length_take, Nat.min_eq_left hm]
 refine ⟨⟨hok, inner, ⟨ho1, .inr ⟨g, cap, cur', by rw [hlm], hb, h3, hnc', hcm, by rw [h4, hcs], ?_⟩⟩, ?_⟩,
  ⟨s1, s2, s3, by rw [s4]; exact Nat.le_refl _, fun k _ hk => hfar k (fun he => hk (by rw [he]))⟩⟩
 ·rw [h5, ← ht, hlm]
  rw [List.append_assoc, List.take_append_of_le_length (by rw [List.length_take, Array.length_toList]; omega), List.take_take, Nat.min_self]
 ·exact zH27
theorem row_room {α : Type} {d : Kd α} {e g n cap base : Nat} {ok : Nat → Prop} {W : World} {xs : List α} (h : d.R e W base ok (.slice (some ⟨g, 0, none⟩) n cap) xs) :
  ∀ j, j < cap * d.sz → (W.cell? ⟨g, j, none⟩).isSome = true ∧ W.frozen? ⟨g, j, none⟩ = false := by
 obtain ⟨hok, inner, ho, hr⟩ := h
 obtain ⟨ho1, ho2⟩ := ho
 rcases ho2 with ⟨hv', _⟩ | ⟨g', cap', cur, hv', hb, hh, hnc', hcm, hcs, ht⟩
 ·cases hv'
 injection hv' with ha hlen hc
 injection ha with ha
 injection ha with hg
 subst hg; subst hc
 intro j hj
 refine ⟨?_, zc hh j⟩
 rw [blk_cell hh j, Array.getElem?_eq_getElem (by omega)]
 rfl
/-- An append whose run is known, as one step of a region that draws. -/
theorem step_run {P : Program} {ops : Array Oper} {o : Oper} {a : Act} {w w1 : World} {K : Act → World → Prop} {Q : Exit → Act → World → Prop} {E : Prop}
  (hg : o.guard = none) (s x : Operand) (t : TypeId) (hop : o.op = Op.call { callee := Callee.builtin Builtin.append, args := #[s, x], argTypes := #[t, t] }) (v1 v2 r : Value) (hs : a.eval s = v1) (hx : a.eval x = v2)
  (hrun : (Builtin.append_ #[t, t] o.type #[v1, v2]).run P w = .ok r w1) (hK : K (a.put o.dst r) w1) :
  if Region.wanted o (yielded ops a.tmps) = true then Oper.wp P o a w K Q else E := by
 have hw : Region.wanted o (yielded ops a.tmps) = true := by simp [Region.wanted, hg]
 rw [if_pos hw]
 unfold Oper.wp
 simp [execOp, hop, resolve, invoke, builtin, hs, hx, hrun, Result.andThen]
 exact hK
theorem zero38 (w : World) : (zeroValue 38).run Try.prog w = .ok (.agg (zl5 ByteArray.empty 0 0 0 false)) w := by
 obtain ⟨i, hi, he⟩ := Option.map_eq_some_iff.mp info38
 simp only [Prod.mk.injEq] at he
 simp [zeroValue, typeInfo, hi, he.1]
 rfl
set_option maxHeartbeats 64000000 in
set_option maxRecDepth 100000 in
/-- slices.Delete of one element. -/
theorem delete63 {w0 : World} {ok : Nat → Prop} (W : World) (u : Value) (l : List S38) (k : Nat) (hk : k < l.length) (HO : Kd.R k38 38 W w0.heap.size ok u l) (hB : Below w0.heap.size w0 W) :
  Calls Try.prog 63 #[u, .int .i64 (k : Int), .int .i64 ((k : Int) + 1)] W fun e W' => ∃ u' : Value, e = .returned u' ∧ Kd.R k38 38 W' w0.heap.size ok u' (l.eraseIdx k) ∧ Below w0.heap.size w0 W' ∧ Kept W W' ok := by
 obtain ⟨go, c, rfl, hgb, _⟩ := zam HO (by omega)
 have hnc := (q4a HO).2.1
 have hmax := Kd.C_max (q4a HO).2.2
 obtain ⟨i0, hi0, hs0⟩ := Option.map_eq_some_iff.mp info38
 simp only [Prod.mk.injEq] at hs0
 obtain ⟨HW, HB, HOk, HGb, HN, HM, HK, HC⟩ := zD8 (zn HO) hB (HO.1 go rfl) hgb (zas HO go rfl) hmax hk hnc
 have hne : ((k : Int) == (k : Int) + 1) = false := beq_eq_false_iff_ne.mpr (by omega)
 have f1 : (0 ≤ (k : Int)) = True := eq_true (by omega)
 have f2 : ((k : Int) ≤ (k : Int) + 1) = True := eq_true (by omega)
 have f3 : ((k : Int) + 1 ≤ (l.length : Int)) = True := eq_true (by omega)
 have f4 : ((l.length : Int) ≤ (c : Int)) = True := eq_true (by omega)
 have f5 : (0 ≤ (k : Int) + 1) = True := eq_true (by omega)
 have f6 : ((k : Int) ≤ (c : Int)) = True := eq_true (by omega)
 have f7 : ((k : Int) + 1).toNat = k + 1 := by omega
 have f8 : (l.length = k) = False := eq_false (by omega)
 obtain ⟨HI, HS⟩ := zD2 hi0 hs0.2.1
 clear hB hgb hmax hi0 hs0 HO hk hnc
 by_cases hc : c = k + 1
 ·have hcf : (c = k + 1) = True := eq_true hc
  obtain ⟨w1, hap, hr1, hg1⟩ := Kd.R_delete_run (P := Try.prog) k38 w0.heap.size 27 27 38 i0 Try.underlying27 HI.out HS.out HW.out HK.out (A := some ⟨go, 0, none⟩) (by rw [if_pos hc]) (c - (k + 1))
  obtain ⟨HAP, HR1, HG1⟩ := zD3 hap hr1 hg1
  clear hap hr1 hg1 hc
  go_enter Try.func63, Try.ntmps63
  go_wp2
  go_region_law (refine step_run rfl (.tmp 22) (.tmp 25) 27 rfl _ _ _ (by simp [Act.eval, Act.put]) (by simp [Act.eval, Act.put]) HAP.out ?_)
  have RM := za (row_room HR1.out)
  have g1 : (l.length - 1 ≤ c) = True := eq_true (by have := HC.out; omega)
  have g2 : (c = l.length - 1) = False := eq_false (by have := HC.out; have := HK.out; omega)
  have hfit : (l.length - 1) * 5 + (l.length - (l.length - 1)) * 5 ≤ c * 5 := by have := HC.out; have := HK.out; omega
  have hcl := run_clear_rows (P := Try.prog) w1 27 38 0 (.agg (zl5 ByteArray.empty 0 0 0 false)) Try.underlying27 zero38 zG84 go ((l.length - 1) * 5) (l.length - (l.length - 1)) (c - (l.length - 1)) (by have := HK.out; omega) (fun j hj => (RM.out _ (by have hj' : j < (l.length - (l.length - 1)) * 5 := hj; show _ < c * 5; omega)).1) (fun j hj => (RM.out _ (by have hj' : j < (l.length - (l.length - 1)) * 5 := hj; show _ < c * 5; omega)).2)
  generalize hZ : (Builtin.zeroCells (Value.agg (zl5 ByteArray.empty 0 0 0 false)).cells (l.length - (l.length - 1))).toList = Z at hcl
  have hZl : (l.length - 1) * 5 + Z.length ≤ c * 5 := by
   rw [← hZ, zc_len]
   exact hfit
  have hel : (l.eraseIdx k).length = l.length - 1 := List.length_eraseIdx_of_lt HK.out
  obtain ⟨RC, HEL⟩ := zD2 (R_clear2 (m := l.length - 1) HR1.out (by rw [hel]; exact Nat.le_refl _) Z hZl) hel
  clear hZl hZ hfit hel
  go_wp2
  repeat (go_quiet (fail); try go_wp2)
  go_ret
  have hR := RC.out.1
  rw [← HEL.out, List.take_length] at hR
  have hrow : ∀ k', some go = some k' → ok k' ∨ W.heap.size ≤ k' := fun k' hk => by injection hk with hk; subst hk; exact .inl HOk.out
  have hbs : ∀ k', some go = some k' → w0.heap.size ≤ k' := fun k' hk => by injection hk with hk; subst hk; exact HGb.out
  have hK1 := zah HG1.out (Kept.drew (Kept.refl W ok)) hrow
  have hB1 := (zh HB.out).grown HG1.out (by exact HB.out.size) hbs
  exact ⟨_, rfl, by rw [HEL.out] at hR; exact hR, hB1.grown RC.out.2 hB1.size hbs, zah RC.out.2 hK1 hrow⟩
 ·have hcf : (c = k + 1) = False := eq_false hc
  obtain ⟨w1, hap, hr1, hg1⟩ := Kd.R_delete_run (P := Try.prog) k38 w0.heap.size 27 27 38 i0 Try.underlying27 HI.out HS.out HW.out HK.out (A := some ⟨go, (k + 1) * 5, none⟩) (by rw [if_neg hc]; show some _ = some (Addr.add _ _); rw [Addr.add, if_neg (by show ¬ (k + 1) * 5 = 0; omega)]; show _ = some (Addr.mk go (0 + (k + 1) * 5) none); rw [Nat.zero_add]) (c - (k + 1))
  obtain ⟨HAP, HR1, HG1⟩ := zD3 hap hr1 hg1
  clear hap hr1 hg1
  go_enter Try.func63, Try.ntmps63
  go_wp2
  go_region_law (refine step_run rfl (.tmp 22) (.tmp 25) 27 rfl _ _ _ (by simp [Act.eval, Act.put]) (by simp [Act.eval, Act.put]) HAP.out ?_)
  have RM := za (row_room HR1.out)
  have g1 : (l.length - 1 ≤ c) = True := eq_true (by have := HC.out; omega)
  have g2 : (c = l.length - 1) = False := eq_false (by have := HC.out; have := HK.out; omega)
  have hfit : (l.length - 1) * 5 + (l.length - (l.length - 1)) * 5 ≤ c * 5 := by have := HC.out; have := HK.out; omega
  have hcl := run_clear_rows (P := Try.prog) w1 27 38 0 (.agg (zl5 ByteArray.empty 0 0 0 false)) Try.underlying27 zero38 zG84 go ((l.length - 1) * 5) (l.length - (l.length - 1)) (c - (l.length - 1)) (by have := HK.out; omega) (fun j hj => (RM.out _ (by have hj' : j < (l.length - (l.length - 1)) * 5 := hj; show _ < c * 5; omega)).1) (fun j hj => (RM.out _ (by have hj' : j < (l.length - (l.length - 1)) * 5 := hj; show _ < c * 5; omega)).2)
  generalize hZ : (Builtin.zeroCells (Value.agg (zl5 ByteArray.empty 0 0 0 false)).cells (l.length - (l.length - 1))).toList = Z at hcl
  have hZl : (l.length - 1) * 5 + Z.length ≤ c * 5 := by
   rw [← hZ, zc_len]
   exact hfit
  have hel : (l.eraseIdx k).length = l.length - 1 := List.length_eraseIdx_of_lt HK.out
  obtain ⟨RC, HEL⟩ := zD2 (R_clear2 (m := l.length - 1) HR1.out (by rw [hel]; exact Nat.le_refl _) Z hZl) hel
  clear hZl hZ hfit hel
  go_wp2
  repeat (go_quiet (fail); try go_wp2)
  go_ret
  have hR := RC.out.1
  rw [← HEL.out, List.take_length] at hR
  have hrow : ∀ k', some go = some k' → ok k' ∨ W.heap.size ≤ k' := fun k' hk => by injection hk with hk; subst hk; exact .inl HOk.out
  have hbs : ∀ k', some go = some k' → w0.heap.size ≤ k' := fun k' hk => by injection hk with hk; subst hk; exact HGb.out
  have hK1 := zah HG1.out (Kept.drew (Kept.refl W ok)) hrow
  have hB1 := (zh HB.out).grown HG1.out (by exact HB.out.size) hbs
  exact ⟨_, rfl, by rw [HEL.out] at hR; exact hR, hB1.grown RC.out.2 hB1.size hbs, zah RC.out.2 hK1 hrow⟩
theorem lot_cells {W : World} {base go n cap : Nat} {ok : Nat → Prop} {L : List S38} {i : Int} (hR : Kd.R k38 38 W base ok (.slice (some ⟨go, 0, none⟩) n cap) L) (h0 : 0 ≤ i) (h1 : i < n) :
  W.cell? ⟨go, i.toNat * 5, none⟩ = some (.string (rd_T38 L i).f0) ∧ W.cell? ⟨go, i.toNat * 5 + 1, none⟩ = some (.int .i64 (rd_T38 L i).f1) ∧ W.cell? ⟨go, i.toNat * 5 + 2, none⟩ = some (.int .i64 (rd_T38 L i).f2) ∧ W.cell? ⟨go, i.toNat * 5 + 3, none⟩ = some (.int .i64 (rd_T38 L i).f3) ∧ W.cell? ⟨go, i.toNat * 5 + 4, none⟩ = some (.bool (rd_T38 L i).f4) ∧ ∀ j, W.frozen? ⟨go, i.toNat * 5 + j, none⟩ = false := by
 obtain ⟨ce, hcl, hM, hcc, hfr⟩ := zag hR z38 i h0 h1
 obtain rfl := k38_openM hM
 exact ⟨hcc 0 _ rfl, hcc 1 _ rfl, hcc 2 _ rfl, hcc 3 _ rfl, hcc 4 _ rfl, hfr⟩
theorem lot_num {W : World} {base go n cap : Nat} {ok : Nat → Prop} {L : List S38} {i : Int} (hR : Kd.R k38 38 W base ok (.slice (some ⟨go, 0, none⟩) n cap) L) (h0 : 0 ≤ i) (h1 : i < n) (z : Int) :
  Kd.R k38 38 (W.setCell ⟨go, i.toNat * 5 + 2, none⟩ (.int .i64 z)) base ok (.slice (some ⟨go, 0, none⟩) n cap) (L.set i.toNat ⟨(rd_T38 L i).f0, (rd_T38 L i).f1, z, (rd_T38 L i).f3, (rd_T38 L i).f4⟩) := by
 obtain ⟨ce, hcl, hM, hcc, hfr⟩ := zag hR z38 i h0 h1
 obtain rfl := k38_openM hM
 exact (zal hR i h0 h1 (seg := [.int .i64 z]) (j := 2) hcl hcc (show 3 ≤ 5 from by decide) (x' := (⟨(rd_T38 L i).f0, (rd_T38 L i).f1, z, (rd_T38 L i).f3, (rd_T38 L i).f4⟩ : S38)) (k38_mkM _ _ _ _) (fun _ hk => hk)).1
theorem lot_held {W : World} {base go n cap : Nat} {ok : Nat → Prop} {L : List S38} {i : Int} (hR : Kd.R k38 38 W base ok (.slice (some ⟨go, 0, none⟩) n cap) L) (h0 : 0 ≤ i) (h1 : i < n) (b : Bool) :
  Kd.R k38 38 (W.setCell ⟨go, i.toNat * 5 + 4, none⟩ (.bool b)) base ok (.slice (some ⟨go, 0, none⟩) n cap) (L.set i.toNat ⟨(rd_T38 L i).f0, (rd_T38 L i).f1, (rd_T38 L i).f2, (rd_T38 L i).f3, b⟩) := by
 obtain ⟨ce, hcl, hM, hcc, hfr⟩ := zag hR z38 i h0 h1
 obtain rfl := k38_openM hM
 exact (zal hR i h0 h1 (seg := [.bool b]) (j := 4) hcl hcc (show 5 ≤ 5 from by decide) (x' := (⟨(rd_T38 L i).f0, (rd_T38 L i).f1, (rd_T38 L i).f2, (rd_T38 L i).f3, b⟩ : S38)) (k38_mkM _ _ _ _) (fun _ hk => hk)).1
/-- What is left when a lot is lessened. -/
def lessenB (l : List S38) (i num : Int) : List S38 :=
 if wrap64 ((rd_T38 l i).f2 - num) = 0 then (l.set i.toNat ⟨(rd_T38 l i).f0, (rd_T38 l i).f1, wrap64 ((rd_T38 l i).f2 - num), (rd_T38 l i).f3, (rd_T38 l i).f4⟩).eraseIdx i.toNat
 else l.set i.toNat ⟨(rd_T38 l i).f0, (rd_T38 l i).f1, wrap64 ((rd_T38 l i).f2 - num), (rd_T38 l i).f3, (rd_T38 l i).f4⟩
set_option maxHeartbeats 64000000 in
set_option maxRecDepth 100000 in
theorem lessen55 (w0 W : World) (gi0 : Nat) (d0 d1 d2 d3 d4 : Int) (u : Value) (l : List S38) (i num : Int) (ok : Nat → Prop) (hB : Below w0.heap.size w0 W) (hbk : W.heap[gi0]? = some (.cells (zs6 d0 d1 d2 d3 d4 u) 29 (0, 0))) (hge : w0.heap.size ≤ gi0) (hng : ¬ ok gi0) (ho : Kd.R k38 38 W w0.heap.size ok u l) (h0 : 0 ≤ i) (h1 : i < (l.length : Int)) :
  Calls Try.prog 55 #[.pointer (some ⟨gi0, 0, none⟩), .int .i64 i, .int .i64 num] W fun e W' => ∃ u' : Value, e = .returned (.tuple #[]) ∧ Kd.R k38 38 W' w0.heap.size ok u' (lessenB l i num) ∧ W'.heap[gi0]? = some (.cells (zs6 d0 d1 d2 d3 d4 (u')) 29 (0, 0)) ∧ Below w0.heap.size w0 W' ∧ Kept W W' (fun k => ok k ∨ k = gi0) := by
 have hu38 := Try.underlying38
 have hu29 := Try.underlying29
 obtain ⟨go, c, rfl, hgb, _⟩ := zam ho (by omega)
 obtain ⟨c0, c1, c2, c3, c4, cf⟩ := lot_cells ho h0 h1
 have cf2 := cf 2
 obtain ⟨HR, BK, HB, GE, NG, HO, HGb, H0, H1⟩ := zD9 ho hbk hB hge hng (ho.1 go rfl) hgb h0 h1
 have hgg : go ≠ gi0 := fun h => hng (h ▸ ho.1 go rfl)
 have b5 : W.cell? ⟨gi0, 5, none⟩ = some (.slice (some ⟨go, 0, none⟩) l.length c) := (blk_cell hbk 5).trans rfl
 have bf := zc hbk 5
 have hC := za (q4a ho).2.1
 clear hB hbk hge hng ho hgb
 replace h0 := eq_true h0
 replace h1 := eq_true h1
 by_cases hz : wrap64 ((rd_T38 l i).f2 - num) = 0
 ·have hzb : (wrap64 ((rd_T38 l i).f2 - num) == 0) = true := beq_iff_eq.mpr hz
  obtain ⟨HE, HP, HBs, BKs, HKs⟩ := zD5 (show lessenB l i num = (l.set i.toNat ⟨(rd_T38 l i).f0, (rd_T38 l i).f1, wrap64 ((rd_T38 l i).f2 - num), (rd_T38 l i).f3, (rd_T38 l i).f4⟩).eraseIdx i.toNat from if_pos hz) (lot_num HR.out H0.out H1.out (wrap64 ((rd_T38 l i).f2 - num))) (zj (j := i.toNat * 5 + 2) (v := .int .i64 (wrap64 ((rd_T38 l i).f2 - num))) HB.out HGb.out) (zt BK.out (p := ⟨go, i.toNat * 5 + 2, none⟩) (fun he => hgg he.symm) (.int .i64 (wrap64 ((rd_T38 l i).f2 - num)))) (Kept.setCell (p := ⟨go, i.toNat * 5 + 2, none⟩) (Kept.refl W (fun k => ok k ∨ k = gi0)) (.inl (.inl HO.out)) (.int .i64 (wrap64 ((rd_T38 l i).f2 - num))))
  have e1 : ((i.toNat : Nat) : Int) = i := Int.toNat_of_nonneg H0.out
  have HD := za (delete63 _ _ _ i.toNat (by rw [List.length_set]; have := H1.out; omega) HP.out HBs.out)
  have w1 : wrap64 (i + 1) = i + 1 := by have := H1.out; have := H0.out; have := Kd.C_max (q4a HR.out).2.2; unfold wrap64; omega
  rw [e1] at HD
  clear hz e1
  go_enter Try.func55, Try.ntmps55
  go_wp2_with (go_at_call 63; refine HD.out.mono ?_; rintro e w' ⟨u', rfl, hr9, hb9, hk9⟩; obtain ⟨A', c', rfl⟩ := zx hr9; have HR9 := za hr9; have HB9 := za hb9; have HK9 := za hk9; have BK9 := za (zab BKs.out hk9 NG.out); have b9 : w'.cell? ⟨gi0, 5, none⟩ = some (.slice (some ⟨go, 0, none⟩) l.length c) := (blk_cell BK9.out 5).trans rfl; have bf9 := zc BK9.out 5; clear hr9 hb9 hk9)
  refine bodyPost_end (v := .tuple #[]) (by simp [results, show Try.f55.results = #[] from rfl]) rfl ?_
  rw [HE.out]
  refine ⟨_, rfl, zm HR9.out (p := ⟨gi0, 5, none⟩) (fun k' hk' he => NG.out (by have he' : k' = gi0 := he; rw [← he']; exact hk')) _, zu BK9.out 5 _ rfl, zj HB9.out GE.out, Kept.setCell (p := ⟨gi0, 5, none⟩) (HKs.out.then_ HK9.out (fun _ h => .inl (.inl h))) (.inl (.inr rfl)) _⟩
 ·have hzb : (wrap64 ((rd_T38 l i).f2 - num) == 0) = false := beq_eq_false_iff_ne.mpr hz
  have HE := za (show lessenB l i num = l.set i.toNat ⟨(rd_T38 l i).f0, (rd_T38 l i).f1, wrap64 ((rd_T38 l i).f2 - num), (rd_T38 l i).f3, (rd_T38 l i).f4⟩ from if_neg hz)
  clear hz
  go_enter Try.func55, Try.ntmps55
  go_wp2
  repeat (go_quiet (fail); try go_wp2)
  refine bodyPost_end (v := .tuple #[]) (by simp [results, show Try.f55.results = #[] from rfl]) rfl ?_
  rw [HE.out]
  refine ⟨_, rfl, lot_num HR.out H0.out H1.out _, zt BK.out (p := ⟨go, _, none⟩) (fun he => hgg he.symm) _, zj HB.out HGb.out, Kept.setCell (p := ⟨go, _, none⟩) (Kept.refl W _) (.inl (.inl HO.out)) _⟩
/-- A lot, as a value. -/
abbrev encL (h : S38) : Value := .agg (zl5 h.f0 h.f1 h.f2 h.f3 h.f4)
/-- What a predicate on lots does when it is called: it turns nothing that lay. -/
def LotsAt (m : Nat) (lb : Array Value) (p : S38 → Bool) (W0 : World) : Prop :=
 ∀ (W : World) (h : S38), Below W0.heap.size W0 W → Calls Try.prog m (#[encL h] ++ lb) W fun e W' => e = .returned (.bool (p h)) ∧ Below W.heap.size W W'
abbrev sumN (p : S38 → Bool) (s : Int) (h : S38) : Int := if p h then wrap64 (s + h.f2) else s
def hasB (p : S38 → Bool) (l : List S38) : Int := l.foldl (sumN p) 0
theorem take_succ_lot {l : List S38} {j : Nat} (hj : j < l.length) : l.take (j + 1) = l.take j ++ [l.getD j z38] := by
 rw [List.take_add_one, List.getElem?_eq_getElem hj, List.getD_eq_getElem?_getD, List.getElem?_eq_getElem hj]
 rfl
set_option maxHeartbeats 64000000 in
set_option maxRecDepth 100000 in
theorem has54 {m : Nat} {lb : Array Value} {p : S38 → Bool} (eg : ∀ args w, (callFunc m args).run Try.prog w = .ok (.enter m args) w) (W : World) (gi0 : Nat) (d0 d1 d2 d3 d4 : Int) (A : Option Addr) (c : Nat) (l : List S38) (base : Nat) (ok : Nat → Prop)
  (hbk : W.heap[gi0]? = some (.cells (zs6 d0 d1 d2 d3 d4 (.slice A l.length c)) 29 (0, 0))) (ho : Kd.R k38 38 W base ok (.slice A l.length c) l) (hat : LotsAt m lb p W) :
  Calls Try.prog 54 #[.pointer (some ⟨gi0, 0, none⟩), .func (.func m) #[] lb] W fun e W' => e = .returned (.int .i64 (hasB p l)) ∧ Below W.heap.size W W' := by
 have hu38 := Try.underlying38
 have hu29 := Try.underlying29
 obtain ⟨HR, HL, HAT, HB⟩ := zD4 ho (Kd.C_max (q4a ho).2.2) hat (Below.refl W.heap.size W)
 have b5 : W.cell? ⟨gi0, 5, none⟩ = some (.slice A l.length c) := (blk_cell hbk 5).trans rfl
 clear hbk ho hat
 go_enter Try.func54, Try.ntmps54
 go_wp2
 go_loopg [5, 13] l.length (fun kq v5 v13 wr => ∃ (s1 x : Int), v5 = .int .i64 s1 ∧ v13 = .int .i64 x ∧ 0 ≤ x ∧ x ≤ l.length ∧ l.length - x.toNat ≤ kq ∧ Aside0 (s1 = (l.take x.toNat).foldl (sumN p) 0) ∧ Aside0 (Below W.heap.size W wr))
 case atStart => exact ⟨0, 0, rfl, rfl, by omega, by omega, by omega, ⟨rfl⟩, ⟨HB.out⟩⟩
 case round =>
  obtain ⟨s1, x, rfl, rfl, hx0, hxl, hgk, ES, HBr⟩ := hrel
  have HI := za hgk
  by_cases hlt : x < (l.length : Int)
  ·have hltb := decide_eq_true hlt
   obtain ⟨go, c', eu, _⟩ := zam HR.out (by omega)
   injection eu with eA _ ec
   subst eA; subst ec
   obtain ⟨c0, c1, c2, c3, c4, cf⟩ := lot_cells (zo HR.out HBr.out) hx0 hlt
   obtain ⟨X0, X1⟩ := zD2 hx0 hlt
   clear hgk hxl
   replace hx0 := eq_true hx0
   replace hlt := eq_true hlt
   go_wp2_with (first | ((with_reducible refine gate_dst (N := 7) rfl ?_); refine box_event ?hg (N := 7) ?hd (cs := (zl5 ByteArray.empty 0 0 0 false)) (t := 38) ?hr ?_; (case hd => rfl); (case hg => rfl); (case hr => exact zH83); intro gb hg w10 hbox hb_; have HB2 := za (zr HBr.out hb_); have GB := za (show W.heap.size ≤ gb from by rw [hg]; exact HBr.out.size); have BK := za hbox; have hz0 : w10.cell? ⟨gb, 0, none⟩ = some (.string ByteArray.empty) := (blk_cell hbox 0).trans rfl; have hz1 : w10.cell? ⟨gb, 1, none⟩ = some (.int .i64 0) := (blk_cell hbox 1).trans rfl; have hz2 : w10.cell? ⟨gb, 2, none⟩ = some (.int .i64 0) := (blk_cell hbox 2).trans rfl; have hz3 : w10.cell? ⟨gb, 3, none⟩ = some (.int .i64 0) := (blk_cell hbox 3).trans rfl; have hz4 : w10.cell? ⟨gb, 4, none⟩ = some (.bool false) := (blk_cell hbox 4).trans rfl; have y0 := zc hbox 0; have y1 := zc hbox 1; have y2 := zc hbox 2; have y3 := zc hbox 3; have y4 := zc hbox 4; clear hbox hb_ hg))
   obtain ⟨HB3, BK3⟩ := zD2 (zj (j := 4) (v := .bool (rd_T38 l x).f4) (zj (j := 3) (v := .int .i64 (rd_T38 l x).f3) (zj (j := 2) (v := .int .i64 (rd_T38 l x).f2) (zj (j := 1) (v := .int .i64 (rd_T38 l x).f1) (zj (j := 0) (v := .string (rd_T38 l x).f0) HB2.out GB.out) GB.out) GB.out) GB.out) GB.out) (zu (zu (zu (zu (zu BK.out 0 (.string (rd_T38 l x).f0) rfl) 1 (.int .i64 (rd_T38 l x).f1) rfl) 2 (.int .i64 (rd_T38 l x).f2) rfl) 3 (.int .i64 (rd_T38 l x).f3) rfl) 4 (.bool (rd_T38 l x).f4) rfl)
   have hc := HAT.out _ (rd_T38 l x) HB3.out
   have HS := za (show (l.take (x + 1).toNat).foldl (sumN p) 0 = sumN p s1 (rd_T38 l x) from by
    rw [show (x + 1).toNat = x.toNat + 1 from by have := X0.out; omega, take_succ_lot (by have := X1.out; have := X0.out; omega), List.foldl_append, ES.out]
    rfl)
   cases hp : p (rd_T38 l x) with
   | true =>
    rw [hp] at hc
    refine hc.mono ?_
    rintro e w' ⟨rfl, hb9⟩
    have HB9 := za (zr HB3.out hb9)
    have q2 : w'.cell? ⟨gb, 2, none⟩ = some (.int .i64 (rd_T38 l x).f2) := (blk_cell (zq BK3.out hb9) 2).trans rfl
    clear hb9 hc
    go_wp2
    repeat (go_quiet (fail); try go_wp2)
    go_roundg (l.length - (x.toNat + 1))
    case measure => have := HI.out; have := X1.out; have := X0.out; omega
    case rel =>
     have hl1 : wrap64 (x + 1) = x + 1 := by have := HL.out; have := X0.out; have := X1.out; unfold wrap64; omega
     exact zH19
   | false =>
    rw [hp] at hc
    refine hc.mono ?_
    rintro e w' ⟨rfl, hb9⟩
    have HB9 := za (zr HB3.out hb9)
    clear hb9 hc
    go_wp2
    repeat (go_quiet (fail); try go_wp2)
    go_roundg (l.length - (x.toNat + 1))
    case measure => have := HI.out; have := X1.out; have := X0.out; omega
    case rel =>
     have hl1 : wrap64 (x + 1) = x + 1 := by have := HL.out; have := X0.out; have := X1.out; unfold wrap64; omega
     exact zH19
  ·have hltb := decide_eq_false hlt
   have hxe : x.toNat = l.length := by omega
   have HE := za (show s1 = hasB p l from by rw [ES.out, hxe, List.take_length]; rfl)
   go_wp2
   repeat (go_quiet (fail); try go_wp2)
   go_ret
   exact ⟨by rw [← HE.out]; rfl, HBr.out⟩
theorem enters51 (args : Array Value) (w : World) : (callFunc 51 args).run Try.prog w = .ok (.enter 51 args) w := by
 have hf := Try.func51
 have h1 : Try.f51.name ≠ "runtime.NumGoroutine" := by decide
 obtain ⟨c, hb⟩ : ∃ c, Try.f51.body = some c := ⟨_, rfl⟩
 simp [callFunc, hf, h1, hb, mark]
theorem enters52 (args : Array Value) (w : World) : (callFunc 52 args).run Try.prog w = .ok (.enter 52 args) w := by
 have hf := Try.func52
 have h1 : Try.f52.name ≠ "runtime.NumGoroutine" := by decide
 obtain ⟨c, hb⟩ : ∃ c, Try.f52.body = some c := ⟨_, rfl⟩
 simp [callFunc, hf, h1, hb, mark]
theorem enters53 (args : Array Value) (w : World) : (callFunc 53 args).run Try.prog w = .ok (.enter 53 args) w := by
 have hf := Try.func53
 have h1 : Try.f53.name ≠ "runtime.NumGoroutine" := by decide
 obtain ⟨c, hb⟩ : ∃ c, Try.f53.body = some c := ⟨_, rfl⟩
 simp [callFunc, hf, h1, hb, mark]
set_option maxHeartbeats 64000000 in
set_option maxRecDepth 100000 in
theorem own51 (W0 : World) (ab : Nat) (x : ByteArray) (hQ : W0.heap[ab]? = some (.cells #[.string x] 9 (0, 0))) : LotsAt 51 #[.pointer (some ⟨ab, 0, none⟩)] (fun h => h.f0.toList == x.toList) W0 := by
 intro W h hB
 have hu38 := Try.underlying38
 obtain ⟨HQ, HW⟩ := zD2 (zq hQ hB) (Below.refl W.heap.size W)
 clear hQ
 go_enter Try.func51, Try.ntmps51
 go_wp2_with (first | ((with_reducible refine gate_dst (N := 2) rfl ?_); refine box_event ?hg (N := 2) ?hd (cs := (zl5 h.f0 h.f1 h.f2 h.f3 h.f4)) (t := 38) ?hr ?_; (case hd => rfl); (case hg => rfl); (case hr => exact zH83); intro gb hg w10 hbox hb; have hcz2 : w10.cell? ⟨ab, 0, none⟩ = some (.string x) := (blk_cell (zq HQ.out hb) 0).trans rfl; have hfz2 := zc (zq HQ.out hb) 0; have hcb0 : w10.cell? ⟨gb, 0, none⟩ = some (.string h.f0) := (blk_cell hbox 0).trans rfl; have hfb0 := zc hbox 0; have HW2 := za (zr HW.out hb); clear hbox hb hg))
 repeat (go_quiet (fail); try go_wp2)
 go_ret
 exact ⟨rfl, HW2.out⟩
set_option maxHeartbeats 64000000 in
set_option maxRecDepth 100000 in
theorem free53 {m : Nat} {lb : Array Value} {p : S38 → Bool} (eg : ∀ args w, (callFunc m args).run Try.prog w = .ok (.enter m args) w) (W0 : World) (ib : Nat) (hQ : W0.heap[ib]? = some (.cells #[.func (.func m) #[] lb] 84 (0, 0))) (hat : LotsAt m lb p W0) : LotsAt 53 #[.pointer (some ⟨ib, 0, none⟩)] (fun h => p h && !h.f4) W0 := by
 intro W h hB
 have hu38 := Try.underlying38
 obtain ⟨HQ, HBW, HAT, HW⟩ := zD4 (zq hQ hB) hB hat (Below.refl W.heap.size W)
 clear hQ hat
 cases hp : p h with
 | false =>
  go_enter Try.func53, Try.ntmps53
  go_wp2_with (first | ((with_reducible refine gate_dst (N := 2) rfl ?_); refine box_event ?hg (N := 2) ?hd (cs := (zl5 h.f0 h.f1 h.f2 h.f3 h.f4)) (t := 38) ?hr ?_; (case hd => rfl); (case hg => rfl); (case hr => exact zH83); intro gb hg w10 hbox hb; have hcz2 : w10.cell? ⟨ib, 0, none⟩ = some (.func (.func m) #[] lb) := (blk_cell (zq HQ.out hb) 0).trans rfl; have hfz2 := zc (zq HQ.out hb) 0; have BX := za hbox; have hcb0 : w10.cell? ⟨gb, 0, none⟩ = some (.string h.f0) := (blk_cell hbox 0).trans rfl; have hcb1 : w10.cell? ⟨gb, 1, none⟩ = some (.int .i64 h.f1) := (blk_cell hbox 1).trans rfl; have hcb2 : w10.cell? ⟨gb, 2, none⟩ = some (.int .i64 h.f2) := (blk_cell hbox 2).trans rfl; have hcb3 : w10.cell? ⟨gb, 3, none⟩ = some (.int .i64 h.f3) := (blk_cell hbox 3).trans rfl; have hcb4 : w10.cell? ⟨gb, 4, none⟩ = some (.bool h.f4) := (blk_cell hbox 4).trans rfl; have HW2 := za (zr HW.out hb); have HB2 := za (zr HBW.out hb); clear hbox hb hg))
  have hc := HAT.out _ h HB2.out
  rw [hp] at hc
  refine hc.mono ?_
  rintro e w' ⟨rfl, hb9⟩
  have HW9 := za (zr HW2.out hb9)
  clear hb9 hc
  go_wp2
  repeat (go_quiet (fail); try go_wp2)
  go_ret
  exact ⟨by show _ = Ending.returned (.bool (p h && !h.f4)); rw [hp]; rfl, HW9.out⟩
 | true =>
  go_enter Try.func53, Try.ntmps53
  go_wp2_with (first | ((with_reducible refine gate_dst (N := 2) rfl ?_); refine box_event ?hg (N := 2) ?hd (cs := (zl5 h.f0 h.f1 h.f2 h.f3 h.f4)) (t := 38) ?hr ?_; (case hd => rfl); (case hg => rfl); (case hr => exact zH83); intro gb hg w10 hbox hb; have hcz2 : w10.cell? ⟨ib, 0, none⟩ = some (.func (.func m) #[] lb) := (blk_cell (zq HQ.out hb) 0).trans rfl; have hfz2 := zc (zq HQ.out hb) 0; have BX := za hbox; have hcb0 : w10.cell? ⟨gb, 0, none⟩ = some (.string h.f0) := (blk_cell hbox 0).trans rfl; have hcb1 : w10.cell? ⟨gb, 1, none⟩ = some (.int .i64 h.f1) := (blk_cell hbox 1).trans rfl; have hcb2 : w10.cell? ⟨gb, 2, none⟩ = some (.int .i64 h.f2) := (blk_cell hbox 2).trans rfl; have hcb3 : w10.cell? ⟨gb, 3, none⟩ = some (.int .i64 h.f3) := (blk_cell hbox 3).trans rfl; have hcb4 : w10.cell? ⟨gb, 4, none⟩ = some (.bool h.f4) := (blk_cell hbox 4).trans rfl; have HW2 := za (zr HW.out hb); have HB2 := za (zr HBW.out hb); clear hbox hb hg))
  have hc := HAT.out _ h HB2.out
  rw [hp] at hc
  refine hc.mono ?_
  rintro e w' ⟨rfl, hb9⟩
  have HW9 := za (zr HW2.out hb9)
  have q4 : w'.cell? ⟨gb, 4, none⟩ = some (.bool h.f4) := (blk_cell (zq BX.out hb9) 4).trans rfl
  clear hb9 hc
  go_wp2
  repeat (go_quiet (fail); try go_wp2)
  go_ret
  exact ⟨by show _ = Ending.returned (.bool (p h && !h.f4)); rw [hp]; rfl, HW9.out⟩
/-- A call of a function value of a region that draws. -/
theorem goesF_ {P : Program} {ops : Array Oper} {Q : Exit → Act → World → Prop} {oi : Oper} {N : Option Tmp} {a : Act} {w : World} {K : Act → World → Prop} {f : FuncId} {lb : Array Value} {t : Operand} {ar : Array Operand} {ts : Array TypeId}
  (eg : ∀ args w, (callFunc f args).run P w = .ok (.enter f args) w) (args : Array Value)
  (hw : Region.wanted oi (yielded ops a.tmps) = true) (hN : oi.dst = N) (hop : oi.op = .call { callee := .value t, args := ar, argTypes := ts }) (ht : a.eval t = .func (.func f) #[] lb) (hargs : ar.map a.eval = args)
  (h : Calls P f (args ++ lb) w fun e w' => ∃ v, e = .returned v ∧ K (a.put N v) w') : if Region.wanted oi (yielded ops a.tmps) = true then Oper.wp P oi a w K Q else K (a.put N undef) w := by
 refine call_ f (args ++ lb) hw hN ?_ h
 unfold execOp
 simp [hop, resolve, Deferred.ofValue, invoke, ht, hargs, eg]
def inDate.T1 : Bool × List (List Nat × List Nat) := (true, [([], []), ([], []), ([0, 1], [0, 1]), ([2, 2], [2]), ([3], [3]), ([4, 3], [3, 4]), ([3], [3]), ([6, 3], [3, 6]), ([7, 3], [3, 7]), ([8, 3], [3, 8]), ([5, 9, 3], [3, 5, 9]), ([3, 10], [3, 10]), ([11, 3, 0, 1, 2, 3, 4, 5, 6, 7, 8, 9, 10, 11], [11])])
def inDate.B1 : List Nat := [0, 0, 3, 7, 15, 31, 15, 79, 207, 463, 1023, 2047, 4095]
theorem inDate.tab1 : rtab .any (opsOf Try.f52 1) = inDate.T1 := by kernel_rfl
theorem inDate.bits1 : waitsOk inDate.T1.2 inDate.B1 = true := by kernel_rfl
set_option maxHeartbeats 64000000 in
set_option maxRecDepth 100000 in
theorem inDate52 {m : Nat} {lb : Array Value} {p : S38 → Bool} (eg : ∀ args w, (callFunc m args).run Try.prog w = .ok (.enter m args) w) (W0 : World) (ob sb gi : Nat) (day d1 d2 d3 d4 : Int) (v : Value)
  (hQ : W0.heap[ob]? = some (.cells #[.func (.func m) #[] lb] 84 (0, 0))) (hS : W0.heap[sb]? = some (.cells #[.pointer (some ⟨gi, 0, none⟩)] 72 (0, 0))) (hI : W0.heap[gi]? = some (.cells (zs6 day d1 d2 d3 d4 v) 29 (0, 0)))
  (hat : LotsAt m lb p W0) : LotsAt 52 #[.pointer (some ⟨ob, 0, none⟩), .pointer (some ⟨sb, 0, none⟩)] (fun h => p h && decide (h.f3 ≥ day)) W0 := by
 intro W h hB
 have hu38 := Try.underlying38
 have hu29 := Try.underlying29
 obtain ⟨HQ, HS, HI, HBW, HAT, HW⟩ := zD6 (zq hQ hB) (zq hS hB) (zq hI hB) hB hat (Below.refl W.heap.size W)
 clear hQ hat hS hI
 cases hp : p h with
 | false =>
  go_enter Try.func52, Try.ntmps52
  go_wp2_with (first | ((with_reducible refine gate_dst (N := 3) rfl ?_); refine box_event ?hg (N := 3) ?hd (cs := (zl5 h.f0 h.f1 h.f2 h.f3 h.f4)) (t := 38) ?hr ?_; (case hd => rfl); (case hg => rfl); (case hr => exact zH83); intro gb hg w10 hbox hb; have BO := za (zq HQ.out hb); have BS := za (zq HS.out hb); have BI := za (zq HI.out hb); have BX := za hbox; have HW2 := za (zr HW.out hb); have HB2 := za (zr HBW.out hb); clear hbox hb hg) | fail)
  obtain ⟨DO, DS, DI, DX, HB3, HW3⟩ := zD6 (zg BO.out) (zg BS.out) (zg BI.out) (zg BX.out) (zh HB2.out) (zh HW2.out)
  refine start_ (n := 13) (S := fun w' => w'.cell? ⟨ob, 0, none⟩ = some (.func (.func m) #[] lb) ∧ w'.cell? ⟨sb, 0, none⟩ = some (.pointer (some ⟨gi, 0, none⟩)) ∧ w'.cell? ⟨gi, 0, none⟩ = some (.int .i64 day) ∧ w'.cell? ⟨gb, 0, none⟩ = some (.string h.f0) ∧ w'.cell? ⟨gb, 1, none⟩ = some (.int .i64 h.f1) ∧ w'.cell? ⟨gb, 2, none⟩ = some (.int .i64 h.f2) ∧ w'.cell? ⟨gb, 3, none⟩ = some (.int .i64 h.f3) ∧ w'.cell? ⟨gb, 4, none⟩ = some (.bool h.f4)) (ds := []) (zM 13 0) zG83 rfl rfl ⟨(blk_cell (DO.out) 0).trans rfl, (blk_cell (DS.out) 0).trans rfl, (blk_cell (DI.out) 0).trans rfl, (blk_cell (DX.out) 0).trans rfl, (blk_cell (DX.out) 1).trans rfl, (blk_cell (DX.out) 2).trans rfl, (blk_cell (DX.out) 3).trans rfl, (blk_cell (DX.out) 4).trans rfl⟩ (fun hHeld => ?_)
  refine with_tabW inDate.tab1 inDate.bits1 (fun HT_ HW_ => ?_)
  refine zQ 0 5 (zM 13 1) HT_ HW_ hHeld ?_
  refine zQ 1 6 (zM 13 3) HT_ HW_ hHeld ?_
  refine one_ (i := 2) (N := some 7) (zM 13 7) rfl rfl (one_of HT_.out zG83) zG84 (fun K hK => ?_)
  refine goesF_ eg #[encL h] (by rfl) rfl rfl rfl zK166 ?_
  refine (HAT.out _ h HB3.out).mono ?_
  rw [hp]
  rintro e w9 ⟨rfl, hb9⟩
  refine ⟨_, rfl, ?_⟩
  have HW9 := za (zr HW3.out hb9)
  refine hK.out _ _ ⟨(blk_cell (zq DO.out hb9) 0).trans rfl, (blk_cell (zq DS.out hb9) 0).trans rfl, (blk_cell (zq DI.out hb9) 0).trans rfl, (blk_cell (zq DX.out hb9) 0).trans rfl, (blk_cell (zq DX.out hb9) 1).trans rfl, (blk_cell (zq DX.out hb9) 2).trans rfl, (blk_cell (zq DX.out hb9) 3).trans rfl, (blk_cell (zq DX.out hb9) 4).trans rfl⟩ (fun hHeld => ?_)
  clear hK K
  refine norm_ (a' := ?_) ?_ ?_
  rotate_left
  ·show Act.put _ (some 7) _ = _
   simp only [Act.put, List.setIfInBounds_toArray, List.set_cons_zero, List.set_cons_succ, i64_w, i32_w]
   rfl
  refine zP 3 8 (zM 13 15) HT_ ?_
  refine zU 4 9 (zM 13 31) HT_ ?_
  refine zU 5 10 (zM 13 63) HT_ ?_
  refine zU 6 11 (zM 13 127) HT_ ?_
  refine zU 7 12 (zM 13 255) HT_ ?_
  refine zU 8 13 (zM 13 511) HT_ ?_
  refine zU 9 14 (zM 13 1023) HT_ ?_
  refine zU 10 15 (zM 13 2047) HT_ ?_
  refine zP 11 16 (zM 13 4095) HT_ ?_
  refine zP 12 4 (zM 13 8191) HT_ ?_
  refine done_ (done_of HT_.out zG83) ?_
  go_wp2
  go_ret
  exact ⟨by show _ = Ending.returned (.bool (p h && decide (h.f3 ≥ day))); rw [hp]; rfl, HW9.out⟩
 | true =>
  go_enter Try.func52, Try.ntmps52
  go_wp2_with (first | ((with_reducible refine gate_dst (N := 3) rfl ?_); refine box_event ?hg (N := 3) ?hd (cs := (zl5 h.f0 h.f1 h.f2 h.f3 h.f4)) (t := 38) ?hr ?_; (case hd => rfl); (case hg => rfl); (case hr => exact zH83); intro gb hg w10 hbox hb; have BO := za (zq HQ.out hb); have BS := za (zq HS.out hb); have BI := za (zq HI.out hb); have BX := za hbox; have HW2 := za (zr HW.out hb); have HB2 := za (zr HBW.out hb); clear hbox hb hg) | fail)
  obtain ⟨DO, DS, DI, DX, HB3, HW3⟩ := zD6 (zg BO.out) (zg BS.out) (zg BI.out) (zg BX.out) (zh HB2.out) (zh HW2.out)
  refine start_ (n := 13) (S := fun w' => w'.cell? ⟨ob, 0, none⟩ = some (.func (.func m) #[] lb) ∧ w'.cell? ⟨sb, 0, none⟩ = some (.pointer (some ⟨gi, 0, none⟩)) ∧ w'.cell? ⟨gi, 0, none⟩ = some (.int .i64 day) ∧ w'.cell? ⟨gb, 0, none⟩ = some (.string h.f0) ∧ w'.cell? ⟨gb, 1, none⟩ = some (.int .i64 h.f1) ∧ w'.cell? ⟨gb, 2, none⟩ = some (.int .i64 h.f2) ∧ w'.cell? ⟨gb, 3, none⟩ = some (.int .i64 h.f3) ∧ w'.cell? ⟨gb, 4, none⟩ = some (.bool h.f4)) (ds := []) (zM 13 0) zG83 rfl rfl ⟨(blk_cell (DO.out) 0).trans rfl, (blk_cell (DS.out) 0).trans rfl, (blk_cell (DI.out) 0).trans rfl, (blk_cell (DX.out) 0).trans rfl, (blk_cell (DX.out) 1).trans rfl, (blk_cell (DX.out) 2).trans rfl, (blk_cell (DX.out) 3).trans rfl, (blk_cell (DX.out) 4).trans rfl⟩ (fun hHeld => ?_)
  refine with_tabW inDate.tab1 inDate.bits1 (fun HT_ HW_ => ?_)
  refine zQ 0 5 (zM 13 1) HT_ HW_ hHeld ?_
  refine zQ 1 6 (zM 13 3) HT_ HW_ hHeld ?_
  refine one_ (i := 2) (N := some 7) (zM 13 7) rfl rfl (one_of HT_.out zG83) zG84 (fun K hK => ?_)
  refine goesF_ eg #[encL h] (by rfl) rfl rfl rfl zK166 ?_
  refine (HAT.out _ h HB3.out).mono ?_
  rw [hp]
  rintro e w9 ⟨rfl, hb9⟩
  refine ⟨_, rfl, ?_⟩
  have HW9 := za (zr HW3.out hb9)
  refine hK.out _ _ ⟨(blk_cell (zq DO.out hb9) 0).trans rfl, (blk_cell (zq DS.out hb9) 0).trans rfl, (blk_cell (zq DI.out hb9) 0).trans rfl, (blk_cell (zq DX.out hb9) 0).trans rfl, (blk_cell (zq DX.out hb9) 1).trans rfl, (blk_cell (zq DX.out hb9) 2).trans rfl, (blk_cell (zq DX.out hb9) 3).trans rfl, (blk_cell (zq DX.out hb9) 4).trans rfl⟩ (fun hHeld => ?_)
  clear hK K
  refine norm_ (a' := ?_) ?_ ?_
  rotate_left
  ·show Act.put _ (some 7) _ = _
   simp only [Act.put, List.setIfInBounds_toArray, List.set_cons_zero, List.set_cons_succ, i64_w, i32_w]
   rfl
  refine zP 3 8 (zM 13 15) HT_ ?_
  refine zP 4 9 (zM 13 31) HT_ ?_
  refine zQ 5 10 (zM 13 63) HT_ HW_ hHeld ?_
  refine zQ 6 11 (zM 13 127) HT_ HW_ hHeld ?_
  refine zP 7 12 (zM 13 255) HT_ ?_
  refine zP 8 13 (zM 13 511) HT_ ?_
  refine zQ 9 14 (zM 13 1023) HT_ HW_ hHeld ?_
  refine zP 10 15 (zM 13 2047) HT_ ?_
  refine zP 11 16 (zM 13 4095) HT_ ?_
  refine zP 12 4 (zM 13 8191) HT_ ?_
  refine done_ (done_of HT_.out zG83) ?_
  go_wp2
  go_ret
  exact ⟨by show _ = Ending.returned (.bool (p h && decide (h.f3 ≥ day))); rw [hp]; rfl, HW9.out⟩
theorem info84 : (Try.prog.info? 84).map (fun i => (i.zero, i.size, i.bytes)) = some (some (.nilFunc), 1, 8) := by kernel_rfl
theorem zero84 (w : World) : (zeroValue 84).run Try.prog w = .ok .nilFunc w := by
 obtain ⟨i, hi, he⟩ := Option.map_eq_some_iff.mp info84
 simp only [Prod.mk.injEq] at he
 simp [zeroValue, typeInfo, hi, he.1]
theorem zero36 (w : World) : (zeroValue 36).run Try.prog w = .ok (.agg (zo2 0 0)) w := by
 obtain ⟨i, hi, he⟩ := Option.map_eq_some_iff.mp info36
 simp only [Prod.mk.injEq] at he
 simp [zeroValue, typeInfo, hi, he.1]
/-- The lots that a sale may take from, and their like. -/
def pO (x : ByteArray) (h : S38) : Bool := h.f0.toList == x.toList
def pD (x : ByteArray) (day : Int) (h : S38) : Bool := pO x h && decide (h.f3 ≥ day)
def pF (x : ByteArray) (day : Int) (h : S38) : Bool := pD x day h && !h.f4
/-- The place of the lot that ends soonest, among the first ones. -/
def bestS (p : S38 → Bool) (l : List S38) (b : Int) (j : Nat) : Int := if (p (l.getD j z38) && (decide (b < 0) || decide ((l.getD j z38).f3 < (rd_T38 l b).f3))) = true then (j : Int) else b
def bestN (p : S38 → Bool) (l : List S38) (n : Nat) : Int := (List.range n).foldl (bestS p l) (-1)
theorem bestN_succ (p : S38 → Bool) (l : List S38) (n : Nat) : bestN p l (n + 1) = bestS p l (bestN p l n) n := by
 rw [bestN, List.range_succ, List.foldl_append]
 rfl
theorem bestN_in (p : S38 → Bool) (l : List S38) : ∀ n, -1 ≤ bestN p l n ∧ bestN p l n < n
 | 0 => ⟨by show (-1 : Int) ≤ -1; decide, by show (-1 : Int) < 0; decide⟩
 | n + 1 => by
  rw [bestN_succ]
  unfold bestS
  have := bestN_in p l n
  split <;> omega
def sellF (p : S38 → Bool) : Nat → List S38 → Int → Int → Option (List S38 × Int)
 | 0, _, _, _ => none
 | k + 1, l, n, c => if 0 < n then (if 0 ≤ bestN p l l.length then sellF p k (lessenB l (bestN p l l.length) (min n (rd_T38 l (bestN p l l.length)).f2)) (wrap64 (n - min n (rd_T38 l (bestN p l l.length)).f2)) (wrap64 (c + 1)) else none) else some (l, c)
def sellR (k : Nat) (d0 d1 d2 d3 d4 : Int) (l : List S38) (x : ByteArray) (num : Int) : Option (Int × Int × Int × Int × Int × Int × Int × List S38) :=
 if num < 1 then some (5, 0, d0, d1, d2, d3, d4, l)
 else if num ≤ hasB (pF x d0) l then (sellF (pF x d0) k l num 0).bind fun q => some (0, q.2, d0, d1, wrap64 (d2 + num), d3, d4, q.1)
 else if num ≤ hasB (pD x d0) l then some (18, 0, d0, d1, d2, d3, d4, l)
 else if num ≤ hasB (pO x) l then some (17, 0, d0, d1, d2, d3, d4, l)
 else some (19, 0, d0, d1, d2, d3, d4, l)
theorem lots_go {m : Nat} {lb : Array Value} {p : S38 → Bool} {W0 W : World} (h : LotsAt m lb p W0) (hb : Below W0.heap.size W0 W) : LotsAt m lb p W := fun W2 x hb2 => h W2 x (zr hb hb2)
theorem bag_end {w0 w W : World} {P0 : Nat → Prop} {gi0 : Nat} {u : Value} {l : List S38} {L : List (Nat × Array Value × TypeId)} {cs : Array Value} (H : Bag k38 38 w0 w (fun k => P0 k ∧ k < w.heap.size ∧ k ≠ gi0) gi0 u l L W) (i : Nat) (hi : L[i]? = some (gi0, cs, 29)) :
  Kd.R k38 38 W w0.heap.size (fun k_ => (P0 k_ ∨ w.heap.size ≤ k_)) u l ∧ W.heap[gi0]? = some (.cells cs 29 (0, 0)) ∧ Below w0.heap.size w0 W ∧ Kept w W (fun k_ => P0 k_ ∨ k_ = gi0) :=
 ⟨zs H.row (fun _ hk => .inl hk.1), H.get i hi, H.below, H.kept.mono (fun _ hk => hk.imp (fun h => h.1) id)⟩
def sell.T19 : Bool × List (List Nat × List Nat) := (true, [([], []), ([], []), ([0, 1], [0, 1]), ([2, 2], [2]), ([3], [3]), ([4, 3], [3, 4]), ([5, 3, 3], [3, 5]), ([6], [6]), ([7, 6], [6, 7]), ([6], [6]), ([9, 6], [6, 9]), ([10, 6], [6, 10]), ([11, 6], [6, 11]), ([6], [6]), ([12, 13, 6], [6, 12, 13]), ([14, 6], [6, 14]), ([15, 6], [6, 15]), ([8, 16, 6], [6, 8, 16]), ([6, 17, 3], [3, 6, 17]), ([3, 18], [3, 18])])
def sell.B19 : List Nat := [0, 0, 3, 7, 15, 31, 63, 127, 255, 127, 639, 1663, 3711, 127, 15999, 32383, 65151, 131071, 262143, 524287]
theorem sell.tab19 : rtab .any (opsOf Try.f38 19) = sell.T19 := by kernel_rfl
theorem sell.bits19 : waitsOk sell.T19.2 sell.B19 = true := by kernel_rfl
theorem bag_tail {w0 w W : World} {P : Nat → Prop} {gi0 : Nat} {u : Value} {l : List S38} {b : Nat × Array Value × TypeId} {L : List (Nat × Array Value × TypeId)} (H : Bag k38 38 w0 w P gi0 u l (b :: L) W) : Bag k38 38 w0 w P gi0 u l L W :=
 ⟨H.below, H.kept, H.row, fun x hx => H.blks x (List.mem_cons_of_mem _ hx), (List.nodup_cons.1 (by simpa using H.nodup)).2, H.ge, H.base, H.lt⟩
set_option maxHeartbeats 64000000 in
set_option maxRecDepth 100000 in
theorem sell38 (k gi0 : Nat) (d0 d1 d2 d3 d4 : Int) (P0 : Nat → Prop) (u : Value) (l : List S38) (x : ByteArray) (num r1 r2 r3 r4 r5 r6 r7 : Int) (r8 : List S38) (w0 w : World) (hB : Below w0.heap.size w0 w)
  (hbk : w.heap[gi0]? = some (.cells (zs6 d0 d1 d2 d3 d4 u) 29 (0, 0))) (hge : w0.heap.size ≤ gi0) (ho : Kd.R k38 38 w w0.heap.size P0 u l) (h : sellR k d0 d1 d2 d3 d4 l x num = some (r1, r2, r3, r4, r5, r6, r7, r8)) :
  Calls Try.prog 38 #[.pointer (some ⟨gi0, 0, none⟩), .string x, .int .i64 num] w fun e w' => ∃ v7_ : Value, e = .returned (.agg (zo2 r1 r2)) ∧ Kd.R k38 38 w' w0.heap.size (fun k_ => (P0 k_ ∨ w.heap.size ≤ k_)) v7_ r8 ∧ w'.heap[gi0]? = some (.cells (zs6 r3 r4 r5 r6 r7 v7_) 29 (0, 0)) ∧ Below w0.heap.size w0 w' ∧ Kept w w' (fun k_ => P0 k_ ∨ k_ = gi0) := by
 have hu36 := Try.underlying36
 have hu38 := Try.underlying38
 have hu29 := Try.underlying29
 have hz84 := zero84
 have hz36 := zero36
 have hz38 := zero38
 obtain ⟨A, c, rfl⟩ := zx ho
 have H0 := za (Bag.mk0 hB hbk hge ho zG84)
 clear hB hbk hge ho
 unfold sellR at h
 have HH := za h
 clear h
 go_enter Try.func38, Try.ntmps38
 go_upto_region 5 with (first | (refine box_bag H0.out 3 #[.pointer (some ⟨gi0, 0, none⟩)] 72 rfl ?_; intro sb w1 h_; have H1 := za h_; clear h_) | (refine box_bag H1.out 4 #[.string x] 9 rfl ?_; intro ab w2 h_; have H2 := za h_; clear h_) | (refine box_bag H2.out 6 (zo2 0 0) 36 rfl ?_; intro rb w3 h_; have H3 := za h_; clear h_) | (refine box_bag H3.out 7 #[.nilFunc] 84 rfl ?_; intro ob w4 h_; have H4 := za h_; have q4 : w4.cell? ⟨ob, 0, none⟩ = some .nilFunc := (H4.out.cell 0 rfl 0).trans rfl; have f4 := H4.out.froz 0 rfl 0; clear h_) | (refine box_bag (H4.out.put 0 0 (.func (.func 51) #[] #[.pointer (some ⟨ab, 0, none⟩)]) rfl rfl) 8 #[.nilFunc] 84 rfl ?_; intro ib w5 h_; have H5 := za h_; have q5 : w5.cell? ⟨ib, 0, none⟩ = some .nilFunc := (H5.out.cell 0 rfl 0).trans rfl; have f5 := H5.out.froz 0 rfl 0; clear h_))
 have H6 : Aside0 (Bag k38 38 w0 w (fun k => P0 k ∧ k < w.heap.size ∧ k ≠ gi0) gi0 (.slice A l.length c) l [(ib, #[.func (.func 52) #[] #[.pointer (some ⟨ob, 0, none⟩), .pointer (some ⟨sb, 0, none⟩)]], 84), (ob, #[.func (.func 51) #[] #[.pointer (some ⟨ab, 0, none⟩)]], 84), (rb, (zo2 0 0), 36), (ab, #[.string x], 9), (sb, #[.pointer (some ⟨gi0, 0, none⟩)], 72), (gi0, (zs6 d0 d1 d2 d3 d4 (.slice A l.length c)), 29)] (w5.setCell ⟨ib, 0, none⟩ (.func (.func 52) #[] #[.pointer (some ⟨ob, 0, none⟩), .pointer (some ⟨sb, 0, none⟩)]))) := ⟨H5.out.put 0 0 (.func (.func 52) #[] #[.pointer (some ⟨ob, 0, none⟩), .pointer (some ⟨sb, 0, none⟩)]) rfl rfl⟩
 generalize (w5.setCell ⟨ib, 0, none⟩ (.func (.func 52) #[] #[.pointer (some ⟨ob, 0, none⟩), .pointer (some ⟨sb, 0, none⟩)])) = w6 at H6 ⊢
 clear q4 f4 q5 f5 H0 H1 H2 H3 H4 H5 hz84 hz36
 have qi_w6 : w6.cell? ⟨ib, 0, none⟩ = some (.func (.func 52) #[] #[.pointer (some ⟨ob, 0, none⟩), .pointer (some ⟨sb, 0, none⟩)]) := (H6.out.cell 0 rfl 0).trans rfl
 have qo_w6 : w6.cell? ⟨ob, 0, none⟩ = some (.func (.func 51) #[] #[.pointer (some ⟨ab, 0, none⟩)]) := (H6.out.cell 1 rfl 0).trans rfl
 have qs_w6 : w6.cell? ⟨sb, 0, none⟩ = some (.pointer (some ⟨gi0, 0, none⟩)) := (H6.out.cell 4 rfl 0).trans rfl
 have qr0_w6 : w6.cell? ⟨rb, 0, none⟩ = some (.int .i64 0) := (H6.out.cell 2 rfl 0).trans rfl
 have fr0_w6 := H6.out.froz 2 rfl 0
 have qr1_w6 : w6.cell? ⟨rb, 1, none⟩ = some (.int .i64 0) := (H6.out.cell 2 rfl 1).trans rfl
 have fr1_w6 := H6.out.froz 2 rfl 1
 have LO := za (show LotsAt 51 _ (pO x) w6 from own51 w6 ab x (H6.out.get 3 rfl))
 have LD := za (show LotsAt 52 _ (pD x d0) w6 from inDate52 enters51 w6 ob sb gi0 d0 d1 d2 d3 d4 _ (H6.out.get 1 rfl) (H6.out.get 4 rfl) (H6.out.get 5 rfl) LO.out)
 have LF := za (show LotsAt 53 _ (pF x d0) w6 from free53 enters52 w6 ib (H6.out.get 0 rfl) LD.out)
 have HC53 := za (has54 enters53 w6 gi0 d0 d1 d2 d3 d4 A c l w0.heap.size _ (H6.out.get 5 rfl) H6.out.row LF.out)
 by_cases k1 : num < 1
 ·have h := HH.out
  rw [if_pos k1] at h
  simp only [Option.some.injEq, Prod.mk.injEq] at h
  obtain ⟨rfl, rfl, rfl, rfl, rfl, rfl, rfl, rfl⟩ := h
  have k1b := decide_eq_true k1
  clear k1 HH
  go_wp2
  have HZ := za (H6.out.puts (i := 2) [.int .i64 5, .int .i64 0] 0 rfl)
  refine bodyPost_ret (results_cell_row rfl _ _ rb 36 _ (0, 0) _ rfl (HZ.out.get 2 rfl) Try.underlying36 rfl zG83) rfl ?_
  have HF := bag_end HZ.out 5 rfl
  exact zH81
 have h := HH.out
 rw [if_neg k1] at h
 clear HH
 have HH := za h
 clear h
 have k1b := decide_eq_false k1
 have K1 := za k1
 clear k1
 have h := HH.out
 by_cases k2 : num ≤ hasB (pF x d0) l
 ·rw [if_pos k2] at h
  replace h := Option.bind_eq_some_iff.mp h
  obtain ⟨⟨lz, cz⟩, hq, h⟩ := h
  simp only [Option.some.injEq, Prod.mk.injEq] at h
  obtain ⟨rfl, rfl, rfl, rfl, rfl, rfl, rfl, rfl⟩ := h
  have HQ := za hq
  clear hq HH
  have k2b := decide_eq_true k2
  clear k2
  go_wp2_with (first | (go_at_call 54; with_reducible refine HC53.out.mono ?_; rintro e w7 ⟨rfl, hb_⟩; have H7 := za (H6.out.go hb_); have qi_w7 : w7.cell? ⟨ib, 0, none⟩ = some (.func (.func 52) #[] #[.pointer (some ⟨ob, 0, none⟩), .pointer (some ⟨sb, 0, none⟩)]) := (H7.out.cell 0 rfl 0).trans rfl; have qo_w7 : w7.cell? ⟨ob, 0, none⟩ = some (.func (.func 51) #[] #[.pointer (some ⟨ab, 0, none⟩)]) := (H7.out.cell 1 rfl 0).trans rfl; have qs_w7 : w7.cell? ⟨sb, 0, none⟩ = some (.pointer (some ⟨gi0, 0, none⟩)) := (H7.out.cell 4 rfl 0).trans rfl; have qr0_w7 : w7.cell? ⟨rb, 0, none⟩ = some (.int .i64 0) := (H7.out.cell 2 rfl 0).trans rfl; have fr0_w7 := H7.out.froz 2 rfl 0; have qr1_w7 : w7.cell? ⟨rb, 1, none⟩ = some (.int .i64 0) := (H7.out.cell 2 rfl 1).trans rfl; have fr1_w7 := H7.out.froz 2 rfl 1; have LD7 := za (lots_go LD.out hb_); have LO7 := za (lots_go LO.out hb_); have HC52 := za (has54 enters52 w7 gi0 d0 d1 d2 d3 d4 A c l w0.heap.size _ (H7.out.get 5 rfl) H7.out.row LD7.out); have q2_7 : w7.cell? ⟨gi0, 2, none⟩ = some (.int .i64 d2) := (H7.out.cell 5 rfl 2).trans rfl; have f2_7 := H7.out.froz 5 rfl 2; clear hb_))
  have H8 : Aside0 (Bag k38 38 w0 w (fun k => P0 k ∧ k < w.heap.size ∧ k ≠ gi0) gi0 (.slice A l.length c) l [(ib, #[.func (.func 52) #[] #[.pointer (some ⟨ob, 0, none⟩), .pointer (some ⟨sb, 0, none⟩)]], 84), (ob, #[.func (.func 51) #[] #[.pointer (some ⟨ab, 0, none⟩)]], 84), (rb, (zo2 0 0), 36), (ab, #[.string x], 9), (sb, #[.pointer (some ⟨gi0, 0, none⟩)], 72), (gi0, (zs6 d0 d1 (wrap64 (d2 + num)) d3 d4 (.slice A l.length c)), 29)] (w7.setCell ⟨gi0, 2, none⟩ (.int .i64 (wrap64 (d2 + num))))) := ⟨H7.out.put 5 2 (.int .i64 (wrap64 (d2 + num))) rfl rfl⟩
  generalize (w7.setCell ⟨gi0, 2, none⟩ (.int .i64 (wrap64 (d2 + num)))) = w8 at H8 ⊢
  clear LO LD LF LD7 LO7 HC53 HC52 q2_7 f2_7 H6 H7
  clear qi_w6 qo_w6 qs_w6 qr0_w6 fr0_w6 qr1_w6 fr1_w6 qi_w7 qo_w7 qs_w7 qr0_w7 fr0_w7 qr1_w7 fr1_w7
  go_loopg [2, 10] k (fun kq v2 v10 wr => ∃ (n cc : Int) (uu : Value) (ll : List S38), v2 = .int .i64 n ∧ v10 = .int .i64 cc ∧ Aside0 (sellF (pF x d0) kq ll n cc = some (lz, cz)) ∧ Aside0 (Bag k38 38 w0 w (fun k => P0 k ∧ k < w.heap.size ∧ k ≠ gi0) gi0 uu ll [(ib, #[.func (.func 52) #[] #[.pointer (some ⟨ob, 0, none⟩), .pointer (some ⟨sb, 0, none⟩)]], 84), (ob, #[.func (.func 51) #[] #[.pointer (some ⟨ab, 0, none⟩)]], 84), (rb, (zo2 0 0), 36), (ab, #[.string x], 9), (sb, #[.pointer (some ⟨gi0, 0, none⟩)], 72), (gi0, (zs6 d0 d1 (wrap64 (d2 + num)) d3 d4 uu), 29)] wr))
  case atStart => exact ⟨num, 0, _, l, rfl, rfl, HQ, H8⟩
  case round =>
   obtain ⟨n, cc, uu, ll, rfl, rfl, HS, HR⟩ := hrel
   clear HQ H8
   cases gk with
   | zero => exact absurd HS.out (by simp [sellF])
   | succ gq =>
    have hs := HS.out
    clear HS
    unfold sellF at hs
    have HMK := za (Nat.lt_succ_self gq)
    by_cases hn : 0 < n
    rotate_left
    ·rw [if_neg hn] at hs
     simp only [Option.some.injEq, Prod.mk.injEq] at hs
     obtain ⟨rfl, rfl⟩ := hs
     have hnb := decide_eq_false hn
     clear hn
     have qr0_wr : wr.cell? ⟨rb, 0, none⟩ = some (.int .i64 0) := (HR.out.cell 2 rfl 0).trans rfl
     have fr0_wr := HR.out.froz 2 rfl 0
     have qr1_wr : wr.cell? ⟨rb, 1, none⟩ = some (.int .i64 0) := (HR.out.cell 2 rfl 1).trans rfl
     have fr1_wr := HR.out.froz 2 rfl 1
     go_wp2
     have HZ := za (HR.out.puts (i := 2) [.int .i64 0, .int .i64 cc] 0 rfl)
     refine bodyPost_ret (results_cell_row rfl _ _ rb 36 _ (0, 0) _ rfl (HZ.out.get 2 rfl) Try.underlying36 rfl zG83) rfl ?_
     have HF := bag_end HZ.out 5 rfl
     exact zH81
    rw [if_pos hn] at hs
    have hnb := decide_eq_true hn
    clear hn
    by_cases hb0 : 0 ≤ bestN (pF x d0) ll ll.length
    rotate_left
    ·rw [if_neg hb0] at hs
     cases hs
    rw [if_pos hb0] at hs
    obtain ⟨BE, BE0⟩ := zD2 hs hb0
    clear hs hb0
    have hin := bestN_in (pF x d0) ll ll.length
    obtain ⟨go, cu, rfl, _, _⟩ := zam HR.out.row (by have := BE0.out; omega)
    have BE1 := za hin.2
    clear hin
    have qs0 : wr.cell? ⟨sb, 0, none⟩ = some (.pointer (some ⟨gi0, 0, none⟩)) := (HR.out.cell 4 rfl 0).trans rfl
    have qs5 : wr.cell? ⟨gi0, 5, none⟩ = some (.slice (some ⟨go, 0, none⟩) ll.length cu) := (HR.out.cell 5 rfl 5).trans rfl
    go_wp2
    go_loopg [11, 58] ll.length (fun kq v11 v58 wi => ∃ y : Int, v11 = .int .i64 (bestN (pF x d0) ll y.toNat) ∧ v58 = .int .i64 y ∧ 0 ≤ y ∧ y ≤ ll.length ∧ ll.length - y.toNat ≤ kq ∧ Aside0 (Bag k38 38 w0 w (fun k => P0 k ∧ k < w.heap.size ∧ k ≠ gi0) gi0 (.slice (some ⟨go, 0, none⟩) ll.length cu) ll [(ib, #[.func (.func 52) #[] #[.pointer (some ⟨ob, 0, none⟩), .pointer (some ⟨sb, 0, none⟩)]], 84), (ob, #[.func (.func 51) #[] #[.pointer (some ⟨ab, 0, none⟩)]], 84), (rb, (zo2 0 0), 36), (ab, #[.string x], 9), (sb, #[.pointer (some ⟨gi0, 0, none⟩)], 72), (gi0, (zs6 d0 d1 (wrap64 (d2 + num)) d3 d4 (.slice (some ⟨go, 0, none⟩) ll.length cu)), 29)] wi))
    case atStart => exact ⟨0, rfl, rfl, by omega, by omega, by omega, HR⟩
    case round =>
     obtain ⟨y, rfl, rfl, hy0, hyl, hgk, HI⟩ := hrel
     clear qs0 qs5 HR
     obtain ⟨HK, Y0, HMX⟩ := zD3 hgk hy0 (Kd.C_max (q4a HI.out.row).2.2)
     have qs0 : wr.cell? ⟨sb, 0, none⟩ = some (.pointer (some ⟨gi0, 0, none⟩)) := (HI.out.cell 4 rfl 0).trans rfl
     have qs5 : wr.cell? ⟨gi0, 5, none⟩ = some (.slice (some ⟨go, 0, none⟩) ll.length cu) := (HI.out.cell 5 rfl 5).trans rfl
     by_cases hlt : y < (ll.length : Int)
     ·have hltb := decide_eq_true hlt
      obtain ⟨Y1, w1⟩ := zD2 hlt (show wrap64 (y + 1) = y + 1 by have := HMX.out; unfold wrap64; omega)
      have hbn := bestN_succ (pF x d0) ll y.toNat
      have hbi := bestN_in (pF x d0) ll y.toNat
      have HNx := za (show bestN (pF x d0) ll (y + 1).toNat = bestS (pF x d0) ll (bestN (pF x d0) ll y.toNat) y.toNat from by rw [← hbn]; congr 1; omega)
      generalize bestN (pF x d0) ll y.toNat = bb at hbi HNx ⊢
      have HBI := za (show -1 ≤ bb ∧ bb < y from ⟨hbi.1, by have := hbi.2; omega⟩)
      clear hbi hbn hgk hyl
      obtain ⟨c0, c1, c2, c3, c4, cf⟩ := lot_cells HI.out.row hy0 hlt
      replace hy0 := eq_true hy0
      replace hlt := eq_true hlt
      go_wp2_with (first | (refine box_bag HI.out 13 (zl5 ByteArray.empty 0 0 0 false) 38 rfl ?_; intro gb w10 h_; have H2 := za h_; have z0 : w10.cell? ⟨gb, 0, none⟩ = some (.string ByteArray.empty) := (H2.out.cell 0 rfl 0).trans rfl; have y0 := H2.out.froz 0 rfl 0; have z1 : w10.cell? ⟨gb, 1, none⟩ = some (.int .i64 0) := (H2.out.cell 0 rfl 1).trans rfl; have y1 := H2.out.froz 0 rfl 1; have z2 : w10.cell? ⟨gb, 2, none⟩ = some (.int .i64 0) := (H2.out.cell 0 rfl 2).trans rfl; have y2 := H2.out.froz 0 rfl 2; have z3 : w10.cell? ⟨gb, 3, none⟩ = some (.int .i64 0) := (H2.out.cell 0 rfl 3).trans rfl; have y3 := H2.out.froz 0 rfl 3; have z4 : w10.cell? ⟨gb, 4, none⟩ = some (.bool false) := (H2.out.cell 0 rfl 4).trans rfl; have y4 := H2.out.froz 0 rfl 4; clear h_) | fail)
      have H3 := za (((((H2.out.put 0 0 (.string (rd_T38 ll y).f0) rfl rfl).put 0 1 (.int .i64 (rd_T38 ll y).f1) rfl rfl).put 0 2 (.int .i64 (rd_T38 ll y).f2) rfl rfl).put 0 3 (.int .i64 (rd_T38 ll y).f3) rfl rfl).put 0 4 (.bool (rd_T38 ll y).f4) rfl rfl)
      generalize (((((w10.setCell ⟨gb, 0, none⟩ (.string (rd_T38 ll y).f0)).setCell ⟨gb, 1, none⟩ (.int .i64 (rd_T38 ll y).f1)).setCell ⟨gb, 2, none⟩ (.int .i64 (rd_T38 ll y).f2)).setCell ⟨gb, 3, none⟩ (.int .i64 (rd_T38 ll y).f3)).setCell ⟨gb, 4, none⟩ (.bool (rd_T38 ll y).f4)) = w11 at H3 ⊢
      have DH := za H3.out.drew
      have LO := za (show LotsAt 51 _ (pO x) w11.drew from own51 _ ab x (DH.out.get 4 rfl))
      have LD := za (show LotsAt 52 _ (pD x d0) w11.drew from inDate52 enters51 _ ob sb gi0 d0 d1 (wrap64 (d2 + num)) d3 d4 _ (DH.out.get 2 rfl) (DH.out.get 5 rfl) (DH.out.get 6 rfl) LO.out)
      have LFd := za (show LotsAt 53 _ (pF x d0) w11.drew from free53 enters52 _ ib (DH.out.get 1 rfl) LD.out)
      clear LO LD z0 y0 z1 y1 z2 y2 z3 y3 z4 y4 c0 c1 c2 c3 c4 cf H2 HI
      have e3 : ll.getD y.toNat z38 = rd_T38 ll y := rfl
      have ey : ((y.toNat : Nat) : Int) = y := Int.toNat_of_nonneg Y0.out
      have HEY := za ey
      clear ey
      cases hp : pF x d0 (rd_T38 ll y) with
      | false =>
       have HN := za (show bestN (pF x d0) ll (y + 1).toNat = bb from by rw [HNx.out, bestS, e3, hp]; rfl)
       clear e3
       refine start_ (n := 20) (S := fun w' => w'.cell? ⟨gb, 0, none⟩ = some (.string (rd_T38 ll y).f0) ∧ w'.cell? ⟨gb, 1, none⟩ = some (.int .i64 (rd_T38 ll y).f1) ∧ w'.cell? ⟨gb, 2, none⟩ = some (.int .i64 (rd_T38 ll y).f2) ∧ w'.cell? ⟨gb, 3, none⟩ = some (.int .i64 (rd_T38 ll y).f3) ∧ w'.cell? ⟨gb, 4, none⟩ = some (.bool (rd_T38 ll y).f4)) (ds := []) (zM 20 0) zG83 rfl rfl ⟨(DH.out.cell 0 rfl 0).trans rfl, (DH.out.cell 0 rfl 1).trans rfl, (DH.out.cell 0 rfl 2).trans rfl, (DH.out.cell 0 rfl 3).trans rfl, (DH.out.cell 0 rfl 4).trans rfl⟩ (fun hHeld => ?_)
       refine with_tabW sell.tab19 sell.bits19 (fun HT_ HW_ => ?_)
       refine zP 0 63 (zM 20 1) HT_ ?_
       refine zQ 1 64 (zM 20 3) HT_ HW_ hHeld ?_
       refine one_ (i := 2) (N := some 65) (zM 20 7) rfl rfl (one_of HT_.out zG83) zG84 (fun K hK => ?_)
       refine goesF_ enters53 #[encL (rd_T38 ll y)] (by rfl) rfl rfl rfl zK166 ?_
       refine (LFd.out _ (rd_T38 ll y) (Below.refl _ _)).mono ?_
       rw [hp]
       rintro e w12 ⟨rfl, hb9⟩
       refine ⟨_, rfl, ?_⟩
       have H9 := za (DH.out.go hb9)
       clear hb9
       refine hK.out _ _ ⟨(H9.out.cell 0 rfl 0).trans rfl, (H9.out.cell 0 rfl 1).trans rfl, (H9.out.cell 0 rfl 2).trans rfl, (H9.out.cell 0 rfl 3).trans rfl, (H9.out.cell 0 rfl 4).trans rfl⟩ (fun hHeld => ?_)
       clear hK K
       refine norm_ (a' := ?_) ?_ ?_
       rotate_left
       ·show Act.put _ (some 65) _ = _
        simp only [Act.put, List.setIfInBounds_toArray, List.set_cons_zero, List.set_cons_succ, i64_w, i32_w]
        rfl
       refine zP 3 66 (zM 20 15) HT_ ?_
       refine zU 4 67 (zM 20 31) HT_ ?_
       refine zU 5 68 (zM 20 63) HT_ ?_
       refine zU 6 69 (zM 20 127) HT_ ?_
       refine zU 7 70 (zM 20 255) HT_ ?_
       refine zU 8 71 (zM 20 511) HT_ ?_
       refine zU 9 72 (zM 20 1023) HT_ ?_
       refine zU 10 73 (zM 20 2047) HT_ ?_
       refine zU 11 74 (zM 20 4095) HT_ ?_
       refine zU 12 75 (zM 20 8191) HT_ ?_
       refine zU 13 76 (zM 20 16383) HT_ ?_
       refine zU 14 77 (zM 20 32767) HT_ ?_
       refine zU 15 78 (zM 20 65535) HT_ ?_
       refine zU 16 79 (zM 20 131071) HT_ ?_
       refine zU 17 80 (zM 20 262143) HT_ ?_
       refine zU 18 81 (zM 20 524287) HT_ ?_
       refine zP 19 82 (zM 20 1048575) HT_ ?_
       refine done_ (done_of HT_.out zG83) ?_
       go_wp2
       go_roundg (ll.length - (y.toNat + 1))
       case measure => have := HK.out; have := Y1.out; have := Y0.out; omega
       case rel => exact ⟨y + 1, by rw [HN.out], by rw [w1.out], zH90, zH89, zH90, ⟨bag_tail H9.out⟩⟩
      | true =>
       by_cases hneg : bb < 0
       ·have hnegb := decide_eq_true hneg
        have HN := za (show bestN (pF x d0) ll (y + 1).toNat = y from by rw [HNx.out, bestS, e3, hp, hnegb]; exact HEY.out)
        clear hneg e3
        refine start_ (n := 20) (S := fun w' => w'.cell? ⟨gb, 0, none⟩ = some (.string (rd_T38 ll y).f0) ∧ w'.cell? ⟨gb, 1, none⟩ = some (.int .i64 (rd_T38 ll y).f1) ∧ w'.cell? ⟨gb, 2, none⟩ = some (.int .i64 (rd_T38 ll y).f2) ∧ w'.cell? ⟨gb, 3, none⟩ = some (.int .i64 (rd_T38 ll y).f3) ∧ w'.cell? ⟨gb, 4, none⟩ = some (.bool (rd_T38 ll y).f4)) (ds := []) (zM 20 0) zG83 rfl rfl ⟨(DH.out.cell 0 rfl 0).trans rfl, (DH.out.cell 0 rfl 1).trans rfl, (DH.out.cell 0 rfl 2).trans rfl, (DH.out.cell 0 rfl 3).trans rfl, (DH.out.cell 0 rfl 4).trans rfl⟩ (fun hHeld => ?_)
        refine with_tabW sell.tab19 sell.bits19 (fun HT_ HW_ => ?_)
        refine zP 0 63 (zM 20 1) HT_ ?_
        refine zQ 1 64 (zM 20 3) HT_ HW_ hHeld ?_
        refine one_ (i := 2) (N := some 65) (zM 20 7) rfl rfl (one_of HT_.out zG83) zG84 (fun K hK => ?_)
        refine goesF_ enters53 #[encL (rd_T38 ll y)] (by rfl) rfl rfl rfl zK166 ?_
        refine (LFd.out _ (rd_T38 ll y) (Below.refl _ _)).mono ?_
        rw [hp]
        rintro e w12 ⟨rfl, hb9⟩
        refine ⟨_, rfl, ?_⟩
        have H9 := za (DH.out.go hb9)
        clear hb9
        refine hK.out _ _ ⟨(H9.out.cell 0 rfl 0).trans rfl, (H9.out.cell 0 rfl 1).trans rfl, (H9.out.cell 0 rfl 2).trans rfl, (H9.out.cell 0 rfl 3).trans rfl, (H9.out.cell 0 rfl 4).trans rfl⟩ (fun hHeld => ?_)
        clear hK K
        refine norm_ (a' := ?_) ?_ ?_
        rotate_left
        ·show Act.put _ (some 65) _ = _
         simp only [Act.put, List.setIfInBounds_toArray, List.set_cons_zero, List.set_cons_succ, i64_w, i32_w]
         rfl
        refine zP 3 66 (zM 20 15) HT_ ?_
        refine zP 4 67 (zM 20 31) HT_ ?_
        refine zP 5 68 (zM 20 63) HT_ ?_
        refine zP 6 69 (zM 20 127) HT_ ?_
        refine zU 7 70 (zM 20 255) HT_ ?_
        refine zU 8 71 (zM 20 511) HT_ ?_
        refine zU 9 72 (zM 20 1023) HT_ ?_
        refine zU 10 73 (zM 20 2047) HT_ ?_
        refine zU 11 74 (zM 20 4095) HT_ ?_
        refine zU 12 75 (zM 20 8191) HT_ ?_
        refine zU 13 76 (zM 20 16383) HT_ ?_
        refine zU 14 77 (zM 20 32767) HT_ ?_
        refine zU 15 78 (zM 20 65535) HT_ ?_
        refine zU 16 79 (zM 20 131071) HT_ ?_
        refine zU 17 80 (zM 20 262143) HT_ ?_
        refine zP 18 81 (zM 20 524287) HT_ ?_
        refine zP 19 82 (zM 20 1048575) HT_ ?_
        refine done_ (done_of HT_.out zG83) ?_
        go_wp2
        go_roundg (ll.length - (y.toNat + 1))
        case measure => have := HK.out; have := Y1.out; have := Y0.out; omega
        case rel => exact ⟨y + 1, by rw [HN.out], by rw [w1.out], zH90, zH89, zH90, ⟨bag_tail H9.out⟩⟩
       ·have hnegb := decide_eq_false hneg
        obtain ⟨BB0, BB1⟩ := zD2 (show 0 ≤ bb by omega) (show bb < (ll.length : Int) by have := HBI.out.2; have := Y1.out; omega)
        have bt0 : (0 ≤ bb) = True := eq_true BB0.out
        have bt1 : (bb < (ll.length : Int)) = True := eq_true BB1.out
        clear hneg
        by_cases hcmp : (rd_T38 ll y).f3 < (rd_T38 ll bb).f3
        ·have hcb := decide_eq_true hcmp
         have HN := za (show bestN (pF x d0) ll (y + 1).toNat = y from by rw [HNx.out, bestS, e3, hp, hcb, Bool.or_true]; exact HEY.out)
         clear hcmp e3
         refine start_ (n := 20) (S := fun w' => w'.cell? ⟨gb, 0, none⟩ = some (.string (rd_T38 ll y).f0) ∧ w'.cell? ⟨gb, 1, none⟩ = some (.int .i64 (rd_T38 ll y).f1) ∧ w'.cell? ⟨gb, 2, none⟩ = some (.int .i64 (rd_T38 ll y).f2) ∧ w'.cell? ⟨gb, 3, none⟩ = some (.int .i64 (rd_T38 ll y).f3) ∧ w'.cell? ⟨gb, 4, none⟩ = some (.bool (rd_T38 ll y).f4) ∧ w'.cell? ⟨sb, 0, none⟩ = some (.pointer (some ⟨gi0, 0, none⟩)) ∧ w'.cell? ⟨gi0, 5, none⟩ = some (.slice (some ⟨go, 0, none⟩) ll.length cu) ∧ w'.cell? ⟨go, bb.toNat * 5 + 3, none⟩ = some (.int .i64 (rd_T38 ll bb).f3)) (ds := []) (zM 20 0) zG83 rfl rfl ⟨(DH.out.cell 0 rfl 0).trans rfl, (DH.out.cell 0 rfl 1).trans rfl, (DH.out.cell 0 rfl 2).trans rfl, (DH.out.cell 0 rfl 3).trans rfl, (DH.out.cell 0 rfl 4).trans rfl, (DH.out.cell 5 rfl 0).trans rfl, (DH.out.cell 6 rfl 5).trans rfl, (lot_cells DH.out.row BB0.out BB1.out).2.2.2.1⟩ (fun hHeld => ?_)
         refine with_tabW sell.tab19 sell.bits19 (fun HT_ HW_ => ?_)
         refine zP 0 63 (zM 20 1) HT_ ?_
         refine zQ 1 64 (zM 20 3) HT_ HW_ hHeld ?_
         refine one_ (i := 2) (N := some 65) (zM 20 7) rfl rfl (one_of HT_.out zG83) zG84 (fun K hK => ?_)
         refine goesF_ enters53 #[encL (rd_T38 ll y)] (by rfl) rfl rfl rfl zK166 ?_
         refine (LFd.out _ (rd_T38 ll y) (Below.refl _ _)).mono ?_
         rw [hp]
         rintro e w12 ⟨rfl, hb9⟩
         refine ⟨_, rfl, ?_⟩
         have H9 := za (DH.out.go hb9)
         clear hb9
         refine hK.out _ _ ⟨(H9.out.cell 0 rfl 0).trans rfl, (H9.out.cell 0 rfl 1).trans rfl, (H9.out.cell 0 rfl 2).trans rfl, (H9.out.cell 0 rfl 3).trans rfl, (H9.out.cell 0 rfl 4).trans rfl, (H9.out.cell 5 rfl 0).trans rfl, (H9.out.cell 6 rfl 5).trans rfl, (lot_cells H9.out.row BB0.out BB1.out).2.2.2.1⟩ (fun hHeld => ?_)
         clear hK K
         refine norm_ (a' := ?_) ?_ ?_
         rotate_left
         ·show Act.put _ (some 65) _ = _
          simp only [Act.put, List.setIfInBounds_toArray, List.set_cons_zero, List.set_cons_succ, i64_w, i32_w]
          rfl
         refine zP 3 66 (zM 20 15) HT_ ?_
         refine zP 4 67 (zM 20 31) HT_ ?_
         refine zP 5 68 (zM 20 63) HT_ ?_
         refine zP 6 69 (zM 20 127) HT_ ?_
         refine zP 7 70 (zM 20 255) HT_ ?_
         refine zQ 8 71 (zM 20 511) HT_ HW_ hHeld ?_
         refine zQ 9 72 (zM 20 1023) HT_ HW_ hHeld ?_
         refine zP 10 73 (zM 20 2047) HT_ ?_
         refine zP 11 74 (zM 20 4095) HT_ ?_
         refine zQ 12 75 (zM 20 8191) HT_ HW_ hHeld ?_
         refine zP 13 76 (zM 20 16383) HT_ ?_
         refine zP 14 77 (zM 20 32767) HT_ ?_
         refine zP 15 78 (zM 20 65535) HT_ ?_
         refine zQ 16 79 (zM 20 131071) HT_ HW_ hHeld ?_
         refine zP 17 80 (zM 20 262143) HT_ ?_
         refine zP 18 81 (zM 20 524287) HT_ ?_
         refine zP 19 82 (zM 20 1048575) HT_ ?_
         refine done_ (done_of HT_.out zG83) ?_
         go_wp2
         go_roundg (ll.length - (y.toNat + 1))
         case measure => have := HK.out; have := Y1.out; have := Y0.out; omega
         case rel => exact ⟨y + 1, by rw [HN.out], by rw [w1.out], zH90, zH89, zH90, ⟨bag_tail H9.out⟩⟩
        ·have hcb := decide_eq_false hcmp
         have HN := za (show bestN (pF x d0) ll (y + 1).toNat = bb from by rw [HNx.out, bestS, e3, hp, hcb, hnegb]; rfl)
         clear hcmp e3
         refine start_ (n := 20) (S := fun w' => w'.cell? ⟨gb, 0, none⟩ = some (.string (rd_T38 ll y).f0) ∧ w'.cell? ⟨gb, 1, none⟩ = some (.int .i64 (rd_T38 ll y).f1) ∧ w'.cell? ⟨gb, 2, none⟩ = some (.int .i64 (rd_T38 ll y).f2) ∧ w'.cell? ⟨gb, 3, none⟩ = some (.int .i64 (rd_T38 ll y).f3) ∧ w'.cell? ⟨gb, 4, none⟩ = some (.bool (rd_T38 ll y).f4) ∧ w'.cell? ⟨sb, 0, none⟩ = some (.pointer (some ⟨gi0, 0, none⟩)) ∧ w'.cell? ⟨gi0, 5, none⟩ = some (.slice (some ⟨go, 0, none⟩) ll.length cu) ∧ w'.cell? ⟨go, bb.toNat * 5 + 3, none⟩ = some (.int .i64 (rd_T38 ll bb).f3)) (ds := []) (zM 20 0) zG83 rfl rfl ⟨(DH.out.cell 0 rfl 0).trans rfl, (DH.out.cell 0 rfl 1).trans rfl, (DH.out.cell 0 rfl 2).trans rfl, (DH.out.cell 0 rfl 3).trans rfl, (DH.out.cell 0 rfl 4).trans rfl, (DH.out.cell 5 rfl 0).trans rfl, (DH.out.cell 6 rfl 5).trans rfl, (lot_cells DH.out.row BB0.out BB1.out).2.2.2.1⟩ (fun hHeld => ?_)
         refine with_tabW sell.tab19 sell.bits19 (fun HT_ HW_ => ?_)
         refine zP 0 63 (zM 20 1) HT_ ?_
         refine zQ 1 64 (zM 20 3) HT_ HW_ hHeld ?_
         refine one_ (i := 2) (N := some 65) (zM 20 7) rfl rfl (one_of HT_.out zG83) zG84 (fun K hK => ?_)
         refine goesF_ enters53 #[encL (rd_T38 ll y)] (by rfl) rfl rfl rfl zK166 ?_
         refine (LFd.out _ (rd_T38 ll y) (Below.refl _ _)).mono ?_
         rw [hp]
         rintro e w12 ⟨rfl, hb9⟩
         refine ⟨_, rfl, ?_⟩
         have H9 := za (DH.out.go hb9)
         clear hb9
         refine hK.out _ _ ⟨(H9.out.cell 0 rfl 0).trans rfl, (H9.out.cell 0 rfl 1).trans rfl, (H9.out.cell 0 rfl 2).trans rfl, (H9.out.cell 0 rfl 3).trans rfl, (H9.out.cell 0 rfl 4).trans rfl, (H9.out.cell 5 rfl 0).trans rfl, (H9.out.cell 6 rfl 5).trans rfl, (lot_cells H9.out.row BB0.out BB1.out).2.2.2.1⟩ (fun hHeld => ?_)
         clear hK K
         refine norm_ (a' := ?_) ?_ ?_
         rotate_left
         ·show Act.put _ (some 65) _ = _
          simp only [Act.put, List.setIfInBounds_toArray, List.set_cons_zero, List.set_cons_succ, i64_w, i32_w]
          rfl
         refine zP 3 66 (zM 20 15) HT_ ?_
         refine zP 4 67 (zM 20 31) HT_ ?_
         refine zP 5 68 (zM 20 63) HT_ ?_
         refine zP 6 69 (zM 20 127) HT_ ?_
         refine zP 7 70 (zM 20 255) HT_ ?_
         refine zQ 8 71 (zM 20 511) HT_ HW_ hHeld ?_
         refine zQ 9 72 (zM 20 1023) HT_ HW_ hHeld ?_
         refine zP 10 73 (zM 20 2047) HT_ ?_
         refine zP 11 74 (zM 20 4095) HT_ ?_
         refine zQ 12 75 (zM 20 8191) HT_ HW_ hHeld ?_
         refine zP 13 76 (zM 20 16383) HT_ ?_
         refine zP 14 77 (zM 20 32767) HT_ ?_
         refine zP 15 78 (zM 20 65535) HT_ ?_
         refine zQ 16 79 (zM 20 131071) HT_ HW_ hHeld ?_
         refine zP 17 80 (zM 20 262143) HT_ ?_
         refine zP 18 81 (zM 20 524287) HT_ ?_
         refine zP 19 82 (zM 20 1048575) HT_ ?_
         refine done_ (done_of HT_.out zG83) ?_
         go_wp2
         go_roundg (ll.length - (y.toNat + 1))
         case measure => have := HK.out; have := Y1.out; have := Y0.out; omega
         case rel => exact ⟨y + 1, by rw [HN.out], by rw [w1.out], zH90, zH89, zH90, ⟨bag_tail H9.out⟩⟩
     ·have hltb := decide_eq_false hlt
      have hye : y.toNat = ll.length := by omega
      rw [hye]
      clear hye hlt hyl hgk
      have HR := HI
      clear HI HK Y0
      obtain ⟨c0, c1, c2, c3, c4, cf⟩ := lot_cells HR.out.row BE0.out BE1.out
      have HLS := za (lessen55 w0 wr gi0 d0 d1 (wrap64 (d2 + num)) d3 d4 _ ll (bestN (pF x d0) ll ll.length) (min n (rd_T38 ll (bestN (pF x d0) ll ll.length)).f2) _ HR.out.below (HR.out.get 5 rfl) HR.out.ge (fun hh => hh.2.2 rfl) HR.out.row BE0.out BE1.out)
      generalize bestN (pF x d0) ll ll.length = be at BE BE0 BE1 HLS c0 c1 c2 c3 c4 cf ⊢
      have be0 : (0 ≤ be) = True := eq_true BE0.out
      have be1 : (be < (ll.length : Int)) = True := eq_true BE1.out
      rcases Int.lt_or_le (rd_T38 ll be).f2 n with hmn | hmn
      ·have hm1 : ((rd_T38 ll be).f2 < n) = True := eq_true hmn
       have hme : min n (rd_T38 ll be).f2 = (rd_T38 ll be).f2 := by omega
       rw [hme] at HLS BE
       clear hmn
       go_wp2_with (first | (go_at_call 55; with_reducible refine HLS.out.mono ?_; rintro e w' ⟨u', rfl, hr9, hc9, hb9, hk9⟩; have H9 := za (HR.out.call 5 rfl hb9 hk9 hr9 hc9); clear hr9 hc9 hb9 hk9))
       go_roundg gq
       case measure => exact HMK.out
       case rel => first | exact ⟨_, _, _, _, rfl, rfl, BE, ⟨H9.out⟩⟩ | (rw [Int.sub_self] at BE; first | exact ⟨_, _, _, _, rfl, rfl, BE, ⟨H9.out⟩⟩ | (rw [show wrap64 0 = 0 from rfl] at BE; exact ⟨_, _, _, _, rfl, rfl, BE, ⟨H9.out⟩⟩))
      ·have hm1 : ((rd_T38 ll be).f2 < n) = False := eq_false (by omega)
       have hme : min n (rd_T38 ll be).f2 = n := by omega
       rw [hme] at HLS BE
       clear hmn
       go_wp2_with (first | (go_at_call 55; with_reducible refine HLS.out.mono ?_; rintro e w' ⟨u', rfl, hr9, hc9, hb9, hk9⟩; have H9 := za (HR.out.call 5 rfl hb9 hk9 hr9 hc9); clear hr9 hc9 hb9 hk9))
       go_roundg gq
       case measure => exact HMK.out
       case rel => exact ⟨_, _, _, _, rfl, rfl, (by rw [show wrap64 (n - n) = 0 by (unfold wrap64; omega)] at BE; exact BE), ⟨H9.out⟩⟩
 rw [if_neg k2] at h
 clear HH
 have k2b := decide_eq_false k2
 clear k2
 by_cases k3 : num ≤ hasB (pD x d0) l
 ·rw [if_pos k3] at h
  simp only [Option.some.injEq, Prod.mk.injEq] at h
  obtain ⟨rfl, rfl, rfl, rfl, rfl, rfl, rfl, rfl⟩ := h
  have k3b := decide_eq_true k3
  clear k3
  go_wp2_with (first | (go_at_call 54; with_reducible refine HC53.out.mono ?_; rintro e w7 ⟨rfl, hb_⟩; have H7 := za (H6.out.go hb_); have qi_w7 : w7.cell? ⟨ib, 0, none⟩ = some (.func (.func 52) #[] #[.pointer (some ⟨ob, 0, none⟩), .pointer (some ⟨sb, 0, none⟩)]) := (H7.out.cell 0 rfl 0).trans rfl; have qo_w7 : w7.cell? ⟨ob, 0, none⟩ = some (.func (.func 51) #[] #[.pointer (some ⟨ab, 0, none⟩)]) := (H7.out.cell 1 rfl 0).trans rfl; have qs_w7 : w7.cell? ⟨sb, 0, none⟩ = some (.pointer (some ⟨gi0, 0, none⟩)) := (H7.out.cell 4 rfl 0).trans rfl; have qr0_w7 : w7.cell? ⟨rb, 0, none⟩ = some (.int .i64 0) := (H7.out.cell 2 rfl 0).trans rfl; have fr0_w7 := H7.out.froz 2 rfl 0; have qr1_w7 : w7.cell? ⟨rb, 1, none⟩ = some (.int .i64 0) := (H7.out.cell 2 rfl 1).trans rfl; have fr1_w7 := H7.out.froz 2 rfl 1; have LD7 := za (lots_go LD.out hb_); have LO7 := za (lots_go LO.out hb_); have HC52 := za (has54 enters52 w7 gi0 d0 d1 d2 d3 d4 A c l w0.heap.size _ (H7.out.get 5 rfl) H7.out.row LD7.out); clear hb_) | (go_at_call 54; with_reducible refine HC52.out.mono ?_; rintro e w8 ⟨rfl, hb_⟩; have H8 := za (H7.out.go hb_); have qi_w8 : w8.cell? ⟨ib, 0, none⟩ = some (.func (.func 52) #[] #[.pointer (some ⟨ob, 0, none⟩), .pointer (some ⟨sb, 0, none⟩)]) := (H8.out.cell 0 rfl 0).trans rfl; have qo_w8 : w8.cell? ⟨ob, 0, none⟩ = some (.func (.func 51) #[] #[.pointer (some ⟨ab, 0, none⟩)]) := (H8.out.cell 1 rfl 0).trans rfl; have qs_w8 : w8.cell? ⟨sb, 0, none⟩ = some (.pointer (some ⟨gi0, 0, none⟩)) := (H8.out.cell 4 rfl 0).trans rfl; have qr0_w8 : w8.cell? ⟨rb, 0, none⟩ = some (.int .i64 0) := (H8.out.cell 2 rfl 0).trans rfl; have fr0_w8 := H8.out.froz 2 rfl 0; have qr1_w8 : w8.cell? ⟨rb, 1, none⟩ = some (.int .i64 0) := (H8.out.cell 2 rfl 1).trans rfl; have fr1_w8 := H8.out.froz 2 rfl 1; have LO8 := za (lots_go LO7.out hb_); have HC51 := za (has54 enters51 w8 gi0 d0 d1 d2 d3 d4 A c l w0.heap.size _ (H8.out.get 5 rfl) H8.out.row LO8.out); clear hb_))
  have HZ := za (H8.out.puts (i := 2) [.int .i64 18, .int .i64 0] 0 rfl)
  refine bodyPost_ret (results_cell_row rfl _ _ rb 36 _ (0, 0) _ rfl (HZ.out.get 2 rfl) Try.underlying36 rfl zG83) rfl ?_
  have HF := bag_end HZ.out 5 rfl
  exact zH81
 rw [if_neg k3] at h
 have k3b := decide_eq_false k3
 clear k3
 by_cases k4 : num ≤ hasB (pO x) l
 ·rw [if_pos k4] at h
  simp only [Option.some.injEq, Prod.mk.injEq] at h
  obtain ⟨rfl, rfl, rfl, rfl, rfl, rfl, rfl, rfl⟩ := h
  have k4b := decide_eq_true k4
  clear k4
  go_wp2_with (first | (go_at_call 54; with_reducible refine HC53.out.mono ?_; rintro e w7 ⟨rfl, hb_⟩; have H7 := za (H6.out.go hb_); have qi_w7 : w7.cell? ⟨ib, 0, none⟩ = some (.func (.func 52) #[] #[.pointer (some ⟨ob, 0, none⟩), .pointer (some ⟨sb, 0, none⟩)]) := (H7.out.cell 0 rfl 0).trans rfl; have qo_w7 : w7.cell? ⟨ob, 0, none⟩ = some (.func (.func 51) #[] #[.pointer (some ⟨ab, 0, none⟩)]) := (H7.out.cell 1 rfl 0).trans rfl; have qs_w7 : w7.cell? ⟨sb, 0, none⟩ = some (.pointer (some ⟨gi0, 0, none⟩)) := (H7.out.cell 4 rfl 0).trans rfl; have qr0_w7 : w7.cell? ⟨rb, 0, none⟩ = some (.int .i64 0) := (H7.out.cell 2 rfl 0).trans rfl; have fr0_w7 := H7.out.froz 2 rfl 0; have qr1_w7 : w7.cell? ⟨rb, 1, none⟩ = some (.int .i64 0) := (H7.out.cell 2 rfl 1).trans rfl; have fr1_w7 := H7.out.froz 2 rfl 1; have LD7 := za (lots_go LD.out hb_); have LO7 := za (lots_go LO.out hb_); have HC52 := za (has54 enters52 w7 gi0 d0 d1 d2 d3 d4 A c l w0.heap.size _ (H7.out.get 5 rfl) H7.out.row LD7.out); clear hb_) | (go_at_call 54; with_reducible refine HC52.out.mono ?_; rintro e w8 ⟨rfl, hb_⟩; have H8 := za (H7.out.go hb_); have qi_w8 : w8.cell? ⟨ib, 0, none⟩ = some (.func (.func 52) #[] #[.pointer (some ⟨ob, 0, none⟩), .pointer (some ⟨sb, 0, none⟩)]) := (H8.out.cell 0 rfl 0).trans rfl; have qo_w8 : w8.cell? ⟨ob, 0, none⟩ = some (.func (.func 51) #[] #[.pointer (some ⟨ab, 0, none⟩)]) := (H8.out.cell 1 rfl 0).trans rfl; have qs_w8 : w8.cell? ⟨sb, 0, none⟩ = some (.pointer (some ⟨gi0, 0, none⟩)) := (H8.out.cell 4 rfl 0).trans rfl; have qr0_w8 : w8.cell? ⟨rb, 0, none⟩ = some (.int .i64 0) := (H8.out.cell 2 rfl 0).trans rfl; have fr0_w8 := H8.out.froz 2 rfl 0; have qr1_w8 : w8.cell? ⟨rb, 1, none⟩ = some (.int .i64 0) := (H8.out.cell 2 rfl 1).trans rfl; have fr1_w8 := H8.out.froz 2 rfl 1; have LO8 := za (lots_go LO7.out hb_); have HC51 := za (has54 enters51 w8 gi0 d0 d1 d2 d3 d4 A c l w0.heap.size _ (H8.out.get 5 rfl) H8.out.row LO8.out); clear hb_) | (go_at_call 54; with_reducible refine HC51.out.mono ?_; rintro e w9 ⟨rfl, hb_⟩; have H9 := za (H8.out.go hb_); have qi_w9 : w9.cell? ⟨ib, 0, none⟩ = some (.func (.func 52) #[] #[.pointer (some ⟨ob, 0, none⟩), .pointer (some ⟨sb, 0, none⟩)]) := (H9.out.cell 0 rfl 0).trans rfl; have qo_w9 : w9.cell? ⟨ob, 0, none⟩ = some (.func (.func 51) #[] #[.pointer (some ⟨ab, 0, none⟩)]) := (H9.out.cell 1 rfl 0).trans rfl; have qs_w9 : w9.cell? ⟨sb, 0, none⟩ = some (.pointer (some ⟨gi0, 0, none⟩)) := (H9.out.cell 4 rfl 0).trans rfl; have qr0_w9 : w9.cell? ⟨rb, 0, none⟩ = some (.int .i64 0) := (H9.out.cell 2 rfl 0).trans rfl; have fr0_w9 := H9.out.froz 2 rfl 0; have qr1_w9 : w9.cell? ⟨rb, 1, none⟩ = some (.int .i64 0) := (H9.out.cell 2 rfl 1).trans rfl; have fr1_w9 := H9.out.froz 2 rfl 1; clear hb_))
  have HZ := za (H9.out.puts (i := 2) [.int .i64 17, .int .i64 0] 0 rfl)
  refine bodyPost_ret (results_cell_row rfl _ _ rb 36 _ (0, 0) _ rfl (HZ.out.get 2 rfl) Try.underlying36 rfl zG83) rfl ?_
  have HF := bag_end HZ.out 5 rfl
  exact zH81
 ·rw [if_neg k4] at h
  simp only [Option.some.injEq, Prod.mk.injEq] at h
  obtain ⟨rfl, rfl, rfl, rfl, rfl, rfl, rfl, rfl⟩ := h
  have k4b := decide_eq_false k4
  clear k4
  go_wp2_with (first | (go_at_call 54; with_reducible refine HC53.out.mono ?_; rintro e w7 ⟨rfl, hb_⟩; have H7 := za (H6.out.go hb_); have qi_w7 : w7.cell? ⟨ib, 0, none⟩ = some (.func (.func 52) #[] #[.pointer (some ⟨ob, 0, none⟩), .pointer (some ⟨sb, 0, none⟩)]) := (H7.out.cell 0 rfl 0).trans rfl; have qo_w7 : w7.cell? ⟨ob, 0, none⟩ = some (.func (.func 51) #[] #[.pointer (some ⟨ab, 0, none⟩)]) := (H7.out.cell 1 rfl 0).trans rfl; have qs_w7 : w7.cell? ⟨sb, 0, none⟩ = some (.pointer (some ⟨gi0, 0, none⟩)) := (H7.out.cell 4 rfl 0).trans rfl; have qr0_w7 : w7.cell? ⟨rb, 0, none⟩ = some (.int .i64 0) := (H7.out.cell 2 rfl 0).trans rfl; have fr0_w7 := H7.out.froz 2 rfl 0; have qr1_w7 : w7.cell? ⟨rb, 1, none⟩ = some (.int .i64 0) := (H7.out.cell 2 rfl 1).trans rfl; have fr1_w7 := H7.out.froz 2 rfl 1; have LD7 := za (lots_go LD.out hb_); have LO7 := za (lots_go LO.out hb_); have HC52 := za (has54 enters52 w7 gi0 d0 d1 d2 d3 d4 A c l w0.heap.size _ (H7.out.get 5 rfl) H7.out.row LD7.out); clear hb_) | (go_at_call 54; with_reducible refine HC52.out.mono ?_; rintro e w8 ⟨rfl, hb_⟩; have H8 := za (H7.out.go hb_); have qi_w8 : w8.cell? ⟨ib, 0, none⟩ = some (.func (.func 52) #[] #[.pointer (some ⟨ob, 0, none⟩), .pointer (some ⟨sb, 0, none⟩)]) := (H8.out.cell 0 rfl 0).trans rfl; have qo_w8 : w8.cell? ⟨ob, 0, none⟩ = some (.func (.func 51) #[] #[.pointer (some ⟨ab, 0, none⟩)]) := (H8.out.cell 1 rfl 0).trans rfl; have qs_w8 : w8.cell? ⟨sb, 0, none⟩ = some (.pointer (some ⟨gi0, 0, none⟩)) := (H8.out.cell 4 rfl 0).trans rfl; have qr0_w8 : w8.cell? ⟨rb, 0, none⟩ = some (.int .i64 0) := (H8.out.cell 2 rfl 0).trans rfl; have fr0_w8 := H8.out.froz 2 rfl 0; have qr1_w8 : w8.cell? ⟨rb, 1, none⟩ = some (.int .i64 0) := (H8.out.cell 2 rfl 1).trans rfl; have fr1_w8 := H8.out.froz 2 rfl 1; have LO8 := za (lots_go LO7.out hb_); have HC51 := za (has54 enters51 w8 gi0 d0 d1 d2 d3 d4 A c l w0.heap.size _ (H8.out.get 5 rfl) H8.out.row LO8.out); clear hb_) | (go_at_call 54; with_reducible refine HC51.out.mono ?_; rintro e w9 ⟨rfl, hb_⟩; have H9 := za (H8.out.go hb_); have qi_w9 : w9.cell? ⟨ib, 0, none⟩ = some (.func (.func 52) #[] #[.pointer (some ⟨ob, 0, none⟩), .pointer (some ⟨sb, 0, none⟩)]) := (H9.out.cell 0 rfl 0).trans rfl; have qo_w9 : w9.cell? ⟨ob, 0, none⟩ = some (.func (.func 51) #[] #[.pointer (some ⟨ab, 0, none⟩)]) := (H9.out.cell 1 rfl 0).trans rfl; have qs_w9 : w9.cell? ⟨sb, 0, none⟩ = some (.pointer (some ⟨gi0, 0, none⟩)) := (H9.out.cell 4 rfl 0).trans rfl; have qr0_w9 : w9.cell? ⟨rb, 0, none⟩ = some (.int .i64 0) := (H9.out.cell 2 rfl 0).trans rfl; have fr0_w9 := H9.out.froz 2 rfl 0; have qr1_w9 : w9.cell? ⟨rb, 1, none⟩ = some (.int .i64 0) := (H9.out.cell 2 rfl 1).trans rfl; have fr1_w9 := H9.out.froz 2 rfl 1; clear hb_))
  have HZ := za (H9.out.puts (i := 2) [.int .i64 19, .int .i64 0] 0 rfl)
  refine bodyPost_ret (results_cell_row rfl _ _ rb 36 _ (0, 0) _ rfl (HZ.out.get 2 rfl) Try.underlying36 rfl zG83) rfl ?_
  have HF := bag_end HZ.out 5 rfl
  exact zH81
/-- An act with a lot, once its place is known. -/
def ofLotA (at_ : Int) (d0 d1 d2 d3 d4 : Int) (l : List S38) (x0 : Int) (x3 : Int) : Option (Int × Int × Int × Int × Int × Int × Int × List S38) :=
 if at_ < 0 then some (8, 0, d0, d1, d2, d3, d4, l)
 else if at_ < (l.length : Int) then
  if x0 = 4 ∨ x0 = 5 then
   (if (rd_T38 l at_).f4 = (x0 == 4) then some (12, 0, d0, d1, d2, d3, d4, l)
   else some (0, (rd_T38 l at_).f2, d0, d1, d2, d3, d4, l.set at_.toNat ⟨(rd_T38 l at_).f0, (rd_T38 l at_).f1, (rd_T38 l at_).f2, (rd_T38 l at_).f3, !(rd_T38 l at_).f4⟩))
  else if x0 = 6 then some (0, (rd_T38 l at_).f2, d0, d1, d2, wrap64 (d3 + (rd_T38 l at_).f2), d4, lessenB l at_ (rd_T38 l at_).f2)
  else (impl_within.f x3 0 (rd_T38 l at_).f2).bind fun t =>
   if t = true then some (0, wrap64 ((rd_T38 l at_).f2 - x3), d0, d1, d2, d3, wrap64 (d4 + wrap64 ((rd_T38 l at_).f2 - x3)), lessenB l at_ (wrap64 ((rd_T38 l at_).f2 - x3)))
   else some (5, 0, d0, d1, d2, d3, d4, l)
 else none
def ofLotR (k : Nat) (d0 d1 d2 d3 d4 : Int) (l : List S38) (x0 : Int) (x1 : ByteArray) (x2 x3 : Int) : Option (Int × Int × Int × Int × Int × Int × Int × List S38) :=
 (slices_IndexFunc_at_impl_Stock_lotAt_1.f k l x1 x2).bind fun a => ofLotA a d0 d1 d2 d3 d4 l x0 x3
set_option maxHeartbeats 64000000 in
set_option maxRecDepth 100000 in
theorem ofLot40 (k gi0 : Nat) (d0 d1 d2 d3 d4 : Int) (P0 : Nat → Prop) (u : Value) (l : List S38) (x0 : Int) (x1 : ByteArray) (x2 x3 x4 r1 r2 r3 r4 r5 r6 r7 : Int) (r8 : List S38) (w0 w : World) (hB : Below w0.heap.size w0 w)
  (hbk : w.heap[gi0]? = some (.cells (zs6 d0 d1 d2 d3 d4 u) 29 (0, 0))) (hge : w0.heap.size ≤ gi0) (ho : Kd.R k38 38 w w0.heap.size P0 u l) (h : ofLotR k d0 d1 d2 d3 d4 l x0 x1 x2 x3 = some (r1, r2, r3, r4, r5, r6, r7, r8)) :
  Calls Try.prog 40 #[.pointer (some ⟨gi0, 0, none⟩), .agg (za5 x0 x1 x2 x3 x4)] w fun e w' => ∃ v7_ : Value, e = .returned (.agg (zo2 r1 r2)) ∧ Kd.R k38 38 w' w0.heap.size (fun k_ => (P0 k_ ∨ w.heap.size ≤ k_)) v7_ r8 ∧ w'.heap[gi0]? = some (.cells (zs6 r3 r4 r5 r6 r7 v7_) 29 (0, 0)) ∧ Below w0.heap.size w0 w' ∧ Kept w w' (fun k_ => P0 k_ ∨ k_ = gi0) := by
 have hu34 := Try.underlying34
 have hu36 := Try.underlying36
 have hu38 := Try.underlying38
 have hu29 := Try.underlying29
 have hz36 := zero36
 have H0 := za (Bag.mk0 hB hbk hge ho zG84)
 clear hB hbk hge ho
 unfold ofLotR at h
 replace h := Option.bind_eq_some_iff.mp h
 obtain ⟨at_, ha, h⟩ := h
 obtain ⟨HA, HH⟩ := zD2 (show impl_Stock_lotAt.f k d0 d1 d2 d3 d4 l x1 x2 = some (at_, d0, d1, d2, d3, d4, l) by unfold impl_Stock_lotAt.f; rw [ha]; rfl) h
 clear h ha
 go_enter Try.func40, Try.ntmps40
 go_upto_region 1 with (first | (refine box_bag H0.out 3 (za5 x0 x1 x2 x3 x4) 34 rfl ?_; intro xb w1 h_; have H1 := za h_; clear h_) | (refine box_bag H1.out 4 (zo2 0 0) 36 rfl ?_; intro rb w2 h_; have H2 := za h_; clear h_))
 obtain ⟨HL, HPP0⟩ := zD2 (impl_Stock_lotAt.calls k gi0 d0 d1 d2 d3 d4 _ u l x1 x2 _ _ _ _ _ _ _ w0 w2 H2.out.below (H2.out.get 2 rfl) H2.out.ge H2.out.row HA.out) (show ∀ k_, (fun k => P0 k ∧ k < w.heap.size ∧ k ≠ gi0) k_ → P0 k_ ∨ w.heap.size ≤ k_ from fun _ hk => .inl hk.1)
 clear H0 H1 hz36
 have qx0_w2 : w2.cell? ⟨xb, 0, none⟩ = some (.int .i64 x0) := (H2.out.cell 1 rfl 0).trans rfl
 have qx1_w2 : w2.cell? ⟨xb, 1, none⟩ = some (.string x1) := (H2.out.cell 1 rfl 1).trans rfl
 have qx2_w2 : w2.cell? ⟨xb, 2, none⟩ = some (.int .i64 x2) := (H2.out.cell 1 rfl 2).trans rfl
 have qx3_w2 : w2.cell? ⟨xb, 3, none⟩ = some (.int .i64 x3) := (H2.out.cell 1 rfl 3).trans rfl
 have qx4_w2 : w2.cell? ⟨xb, 4, none⟩ = some (.int .i64 x4) := (H2.out.cell 1 rfl 4).trans rfl
 have qr0_w2 : w2.cell? ⟨rb, 0, none⟩ = some (.int .i64 0) := (H2.out.cell 0 rfl 0).trans rfl
 have fr0_w2 := H2.out.froz 0 rfl 0
 have qr1_w2 : w2.cell? ⟨rb, 1, none⟩ = some (.int .i64 0) := (H2.out.cell 0 rfl 1).trans rfl
 have fr1_w2 := H2.out.froz 0 rfl 1
 go_upto_region 2 with (first | (go_at_call 50; with_reducible refine HL.out.mono ?_; rintro e w3 ⟨v6, rfl, hr9, hc9, hb9, hk9⟩; have H3 := za (H2.out.call' 2 rfl hb9 hk9 hr9 hc9); clear hr9 hc9 hb9 hk9))
 have HPP := za (show ∀ k_, (fun k => ((P0 k ∧ k < w.heap.size ∧ k ≠ gi0) ∨ w2.heap.size ≤ k) ∧ k < w3.heap.size) k_ → P0 k_ ∨ w.heap.size ≤ k_ from fun k_ hk => hk.1.elim (fun hh => .inl hh.1) (fun hh => .inr (Nat.le_trans H2.out.kept.1 hh)))
 clear HL HPP0 H2 fr0_w2 fr1_w2 qr0_w2 qr1_w2 qx0_w2 qx1_w2 qx2_w2 qx3_w2 qx4_w2
 have qx0_w3 : w3.cell? ⟨xb, 0, none⟩ = some (.int .i64 x0) := (H3.out.cell 1 rfl 0).trans rfl
 have qx1_w3 : w3.cell? ⟨xb, 1, none⟩ = some (.string x1) := (H3.out.cell 1 rfl 1).trans rfl
 have qx2_w3 : w3.cell? ⟨xb, 2, none⟩ = some (.int .i64 x2) := (H3.out.cell 1 rfl 2).trans rfl
 have qx3_w3 : w3.cell? ⟨xb, 3, none⟩ = some (.int .i64 x3) := (H3.out.cell 1 rfl 3).trans rfl
 have qx4_w3 : w3.cell? ⟨xb, 4, none⟩ = some (.int .i64 x4) := (H3.out.cell 1 rfl 4).trans rfl
 have qr0_w3 : w3.cell? ⟨rb, 0, none⟩ = some (.int .i64 0) := (H3.out.cell 0 rfl 0).trans rfl
 have fr0_w3 := H3.out.froz 0 rfl 0
 have qr1_w3 : w3.cell? ⟨rb, 1, none⟩ = some (.int .i64 0) := (H3.out.cell 0 rfl 1).trans rfl
 have fr1_w3 := H3.out.froz 0 rfl 1
 by_cases hn : at_ < 0
 ·have h := HH.out
  unfold ofLotA at h
  rw [if_pos hn] at h
  simp only [Option.some.injEq, Prod.mk.injEq] at h
  obtain ⟨rfl, rfl, rfl, rfl, rfl, rfl, rfl, rfl⟩ := h
  have hnb := decide_eq_true hn
  clear hn HH
  go_wp2
  have HZ := za (H3.out.puts (i := 0) [.int .i64 8, .int .i64 0] 0 rfl)
  refine bodyPost_ret (results_cell_row rfl _ _ rb 36 _ (0, 0) _ rfl (HZ.out.get 0 rfl) Try.underlying36 rfl zG83) rfl ?_
  have HF := HZ.out.fin (P0 := P0) HPP.out 2 rfl
  first | exact ⟨_, rfl, HF.1, HF.2.1, HF.2.2.1, HF.2.2.2⟩ | exact ⟨rfl, _, HF.1, HF.2.1, HF.2.2.1, HF.2.2.2⟩
 have h := HH.out
 unfold ofLotA at h
 rw [if_neg hn] at h
 clear HH
 have hnb := decide_eq_false hn
 by_cases hl : at_ < (l.length : Int)
 rotate_left
 ·rw [if_neg hl] at h
  cases h
 rw [if_pos hl] at h
 obtain ⟨A0, A1⟩ := zD2 (show 0 ≤ at_ by omega) hl
 obtain ⟨go, cu, hu_, hge_, _⟩ := zam H3.out.row (by omega)
 subst hu_
 obtain ⟨GE, GP⟩ := zD2 hge_ (H3.out.row.1 go rfl)
 clear hge_
 obtain ⟨c0, c1, c2, c3, c4, cf⟩ := lot_cells H3.out.row A0.out A1.out
 have hat0 : (0 ≤ at_) = True := eq_true A0.out
 have hat1 : (at_ < (l.length : Int)) = True := eq_true A1.out
 have HH := za h
 clear h hn hl
 have qg0_w3 : w3.cell? ⟨gi0, 0, none⟩ = some (.int .i64 d0) := (H3.out.cell 2 rfl 0).trans rfl
 have fg0_w3 := H3.out.froz 2 rfl 0
 have qg1_w3 : w3.cell? ⟨gi0, 1, none⟩ = some (.int .i64 d1) := (H3.out.cell 2 rfl 1).trans rfl
 have fg1_w3 := H3.out.froz 2 rfl 1
 have qg2_w3 : w3.cell? ⟨gi0, 2, none⟩ = some (.int .i64 d2) := (H3.out.cell 2 rfl 2).trans rfl
 have fg2_w3 := H3.out.froz 2 rfl 2
 have qg3_w3 : w3.cell? ⟨gi0, 3, none⟩ = some (.int .i64 d3) := (H3.out.cell 2 rfl 3).trans rfl
 have fg3_w3 := H3.out.froz 2 rfl 3
 have qg4_w3 : w3.cell? ⟨gi0, 4, none⟩ = some (.int .i64 d4) := (H3.out.cell 2 rfl 4).trans rfl
 have fg4_w3 := H3.out.froz 2 rfl 4
 have qg5_w3 : w3.cell? ⟨gi0, 5, none⟩ = some (.slice (some ⟨go, 0, none⟩) l.length cu) := (H3.out.cell 2 rfl 5).trans rfl
 have fg5_w3 := H3.out.froz 2 rfl 5
 have LS := za trivial --(fun num => lessen55 w0 w3 gi0 d0 d1 d2 d3 d4 _ l at_ num _ H3.out.below (H3.out.get 2 rfl) H3.out.ge (H3.out.notin 2 rfl) H3.out.row A0.out A1.out)
 by_cases k45 : x0 = 4 ∨ x0 = 5
 ·have h := HH.out
  rw [if_pos k45] at h
  clear HH
  by_cases hs : (rd_T38 l at_).f4 = (x0 == 4)
  ·rw [if_pos hs] at h
   simp only [Option.some.injEq, Prod.mk.injEq] at h
   obtain ⟨rfl, rfl, rfl, rfl, rfl, rfl, rfl, rfl⟩ := h
   rcases k45 with rfl | rfl
   ·rw [show (rd_T38 l at_).f4 = true from hs] at c4
    clear hs
    go_wp2
    repeat (go_quiet (fail); try go_wp2)
    have H4 := za (H3.out.drewN nq)
    have HZ := za (H4.out.puts (i := 0) [.int .i64 12, .int .i64 0] 0 rfl)
    refine bodyPost_ret (results_cell_row rfl _ _ rb 36 _ (0, 0) _ rfl (HZ.out.get 0 rfl) Try.underlying36 rfl zG83) rfl ?_
    have HF := HZ.out.fin (P0 := P0) HPP.out 2 rfl
    first | exact ⟨_, rfl, HF.1, HF.2.1, HF.2.2.1, HF.2.2.2⟩ | exact ⟨rfl, _, HF.1, HF.2.1, HF.2.2.1, HF.2.2.2⟩
   ·rw [show (rd_T38 l at_).f4 = false from hs] at c4
    clear hs
    go_wp2
    repeat (go_quiet (fail); try go_wp2)
    have H4 := za (H3.out.drewN nq)
    have HZ := za (H4.out.puts (i := 0) [.int .i64 12, .int .i64 0] 0 rfl)
    refine bodyPost_ret (results_cell_row rfl _ _ rb 36 _ (0, 0) _ rfl (HZ.out.get 0 rfl) Try.underlying36 rfl zG83) rfl ?_
    have HF := HZ.out.fin (P0 := P0) HPP.out 2 rfl
    first | exact ⟨_, rfl, HF.1, HF.2.1, HF.2.2.1, HF.2.2.2⟩ | exact ⟨rfl, _, HF.1, HF.2.1, HF.2.2.1, HF.2.2.2⟩
  ·rw [if_neg hs] at h
   rcases k45 with rfl | rfl
   ·have hv : (rd_T38 l at_).f4 = false := by
     cases hh : (rd_T38 l at_).f4 <;> simp_all
    rw [hv] at h c4
    simp only [Option.some.injEq, Prod.mk.injEq] at h
    obtain ⟨rfl, rfl, rfl, rfl, rfl, rfl, rfl, rfl⟩ := h
    clear hs hv
    have cf4 := cf 4
    go_wp2
    repeat (go_quiet (fail); try go_wp2)
    have H4 := za ((H3.out.drewN nq).rowput (lot_held (H3.out.drewN nq).row A0.out A1.out true) GE.out GP.out)
    have HZ := za (H4.out.puts (i := 0) [.int .i64 0, .int .i64 (rd_T38 l at_).f2] 0 rfl)
    refine bodyPost_ret (results_cell_row rfl _ _ rb 36 _ (0, 0) _ rfl (HZ.out.get 0 rfl) Try.underlying36 rfl zG83) rfl ?_
    have HF := HZ.out.fin (P0 := P0) HPP.out 2 rfl
    first | exact ⟨_, rfl, HF.1, HF.2.1, HF.2.2.1, HF.2.2.2⟩ | exact ⟨rfl, _, HF.1, HF.2.1, HF.2.2.1, HF.2.2.2⟩
   ·have hv : (rd_T38 l at_).f4 = true := by
     cases hh : (rd_T38 l at_).f4 <;> simp_all
    rw [hv] at h c4
    simp only [Option.some.injEq, Prod.mk.injEq] at h
    obtain ⟨rfl, rfl, rfl, rfl, rfl, rfl, rfl, rfl⟩ := h
    clear hs hv
    have cf4 := cf 4
    go_wp2
    repeat (go_quiet (fail); try go_wp2)
    have H4 := za ((H3.out.drewN nq).rowput (lot_held (H3.out.drewN nq).row A0.out A1.out false) GE.out GP.out)
    have HZ := za (H4.out.puts (i := 0) [.int .i64 0, .int .i64 (rd_T38 l at_).f2] 0 rfl)
    refine bodyPost_ret (results_cell_row rfl _ _ rb 36 _ (0, 0) _ rfl (HZ.out.get 0 rfl) Try.underlying36 rfl zG83) rfl ?_
    have HF := HZ.out.fin (P0 := P0) HPP.out 2 rfl
    first | exact ⟨_, rfl, HF.1, HF.2.1, HF.2.2.1, HF.2.2.2⟩ | exact ⟨rfl, _, HF.1, HF.2.1, HF.2.2.1, HF.2.2.2⟩
 ·have h := HH.out
  rw [if_neg k45] at h
  clear HH
  have e4 : (x0 == 4) = false := beq_eq_false_iff_ne.mpr (fun hh => k45 (.inl hh))
  have e5 : (x0 == 5) = false := beq_eq_false_iff_ne.mpr (fun hh => k45 (.inr hh))
  by_cases k6 : x0 = 6
  ·subst k6
   rw [if_pos rfl] at h
   simp only [Option.some.injEq, Prod.mk.injEq] at h
   obtain ⟨rfl, rfl, rfl, rfl, rfl, rfl, rfl, rfl⟩ := h
   clear e4 e5
   have H4 := za (H3.out.put 2 3 (.int .i64 (wrap64 (d3 + (rd_T38 l at_).f2))) rfl rfl)
   have HLS := za (lessen55 w0 _ gi0 d0 d1 d2 (wrap64 (d3 + (rd_T38 l at_).f2)) d4 _ l at_ (rd_T38 l at_).f2 _ H4.out.below (H4.out.get 2 rfl) H4.out.ge (H4.out.notin 2 rfl) H4.out.row A0.out A1.out)
   clear LS cf
   go_wp2_with (first | (go_at_call 55; with_reducible refine HLS.out.mono ?_; rintro e w9 ⟨u', rfl, hr9, hc9, hb9, hk9⟩; have H9 := za (H4.out.call 2 rfl hb9 hk9 hr9 hc9); have qr0_9 : w9.cell? ⟨rb, 0, none⟩ = some (.int .i64 0) := (H9.out.cell 0 rfl 0).trans rfl; have fr0_9 := H9.out.froz 0 rfl 0; have qr1_9 : w9.cell? ⟨rb, 1, none⟩ = some (.int .i64 0) := (H9.out.cell 0 rfl 1).trans rfl; have fr1_9 := H9.out.froz 0 rfl 1; clear hr9 hc9 hb9 hk9))
   have HZ := za (H9.out.puts (i := 0) [.int .i64 0, .int .i64 (rd_T38 l at_).f2] 0 rfl)
   refine bodyPost_ret (results_cell_row rfl _ _ rb 36 _ (0, 0) _ rfl (HZ.out.get 0 rfl) Try.underlying36 rfl zG83) rfl ?_
   have HF := HZ.out.fin (P0 := P0) HPP.out 2 rfl
   first | exact ⟨_, rfl, HF.1, HF.2.1, HF.2.2.1, HF.2.2.2⟩ | exact ⟨rfl, _, HF.1, HF.2.1, HF.2.2.1, HF.2.2.2⟩
  ·rw [if_neg k6] at h
   have e6 : (x0 == 6) = false := beq_eq_false_iff_ne.mpr k6
   clear k45 k6
   replace h := Option.bind_eq_some_iff.mp h
   obtain ⟨t, a5, h⟩ := h
   have A5 := za a5
   clear a5 LS cf
   cases t with
   | false =>
    simp only [Bool.false_eq_true, if_false, Option.some.injEq, Prod.mk.injEq] at h
    obtain ⟨rfl, rfl, rfl, rfl, rfl, rfl, rfl, rfl⟩ := h
    go_wp2_with (first | (go_at_call 39; with_reducible refine (impl_within.calls x3 0 (rd_T38 l at_).f2 false _ A5.out).mono ?_; rintro e w' ⟨rfl, ⟨nd, rfl⟩⟩; have H4 := za (H3.out.drewN nd)))
    have HZ := za (H4.out.puts (i := 0) [.int .i64 5, .int .i64 0] 0 rfl)
    refine bodyPost_ret (results_cell_row rfl _ _ rb 36 _ (0, 0) _ rfl (HZ.out.get 0 rfl) Try.underlying36 rfl zG83) rfl ?_
    have HF := HZ.out.fin (P0 := P0) HPP.out 2 rfl
    first | exact ⟨_, rfl, HF.1, HF.2.1, HF.2.2.1, HF.2.2.2⟩ | exact ⟨rfl, _, HF.1, HF.2.1, HF.2.2.1, HF.2.2.2⟩
   | true =>
    simp only [if_true, Option.some.injEq, Prod.mk.injEq] at h
    obtain ⟨rfl, rfl, rfl, rfl, rfl, rfl, rfl, rfl⟩ := h
    go_wp2_with (first | (go_at_call 39; with_reducible refine (impl_within.calls x3 0 (rd_T38 l at_).f2 true _ A5.out).mono ?_; rintro e w' ⟨rfl, ⟨nd, rfl⟩⟩; have H4 := za ((H3.out.drewN nd).put 2 4 (.int .i64 (wrap64 (d4 + wrap64 ((rd_T38 l at_).f2 - x3)))) rfl rfl); have HLS := za (lessen55 w0 _ gi0 d0 d1 d2 d3 (wrap64 (d4 + wrap64 ((rd_T38 l at_).f2 - x3))) _ l at_ (wrap64 ((rd_T38 l at_).f2 - x3)) _ H4.out.below (H4.out.get 2 rfl) H4.out.ge (H4.out.notin 2 rfl) H4.out.row A0.out A1.out)) | (go_at_call 55; with_reducible refine HLS.out.mono ?_; rintro e w9 ⟨u', rfl, hr9, hc9, hb9, hk9⟩; have H9 := za (H4.out.call 2 rfl hb9 hk9 hr9 hc9); have qr0_9 : w9.cell? ⟨rb, 0, none⟩ = some (.int .i64 0) := (H9.out.cell 0 rfl 0).trans rfl; have fr0_9 := H9.out.froz 0 rfl 0; have qr1_9 : w9.cell? ⟨rb, 1, none⟩ = some (.int .i64 0) := (H9.out.cell 0 rfl 1).trans rfl; have fr1_9 := H9.out.froz 0 rfl 1; clear hr9 hc9 hb9 hk9))
    have HZ := za (H9.out.puts (i := 0) [.int .i64 0, .int .i64 (wrap64 ((rd_T38 l at_).f2 - x3))] 0 rfl)
    refine bodyPost_ret (results_cell_row rfl _ _ rb 36 _ (0, 0) _ rfl (HZ.out.get 0 rfl) Try.underlying36 rfl zG83) rfl ?_
    have HF := HZ.out.fin (P0 := P0) HPP.out 2 rfl
    first | exact ⟨_, rfl, HF.1, HF.2.1, HF.2.2.1, HF.2.2.2⟩ | exact ⟨rfl, _, HF.1, HF.2.1, HF.2.2.1, HF.2.2.2⟩
def impl_Stock_do.f (k : Nat) (a0_0 : Int) (a0_1 : Int) (a0_2 : Int) (a0_3 : Int) (a0_4 : Int) (l0_5 : List (S38)) (a1_0 : Int) (a1_1 : ByteArray) (a1_2 : Int) (a1_3 : Int) (a1_4 : Int) : Option (Int × Int × Int × Int × Int × Int × Int × (List (S38))) :=
 if a1_0 = 1 then impl_Stock_receive.f k a0_0 a0_1 a0_2 a0_3 a0_4 l0_5 a1_0 a1_1 a1_2 a1_3 a1_4
 else if a1_0 = 2 then sellR k a0_0 a0_1 a0_2 a0_3 a0_4 l0_5 a1_1 a1_3
 else if a1_0 = 3 then (impl_within.f a1_3 a0_0 100000).bind fun t => if t = true then some (0, a1_3, a1_3, a0_1, a0_2, a0_3, a0_4, l0_5) else some (5, 0, a0_0, a0_1, a0_2, a0_3, a0_4, l0_5)
 else if a1_0 = 4 ∨ a1_0 = 5 ∨ a1_0 = 6 ∨ a1_0 = 7 then ofLotR k a0_0 a0_1 a0_2 a0_3 a0_4 l0_5 a1_0 a1_1 a1_2 a1_3
 else some (13, 0, a0_0, a0_1, a0_2, a0_3, a0_4, l0_5)
theorem sellF_mono (p : S38 → Bool) : ∀ k l n c, LeO (sellF p k l n c) (sellF p (k + 1) l n c)
 | 0, _, _, _ => fun r h => by simp [sellF] at h
 | k + 1, l, n, c => by
  rw [sellF, sellF]
  split
  ·split
   ·exact sellF_mono p k _ _ _
   ·exact LeO.refl _
  ·exact LeO.refl _
theorem impl_Stock_do.mono : ∀ a0 a1 a2 a3 a4 a5 a6 a7 a8 a9 a10 k, LeO (impl_Stock_do.f k a0 a1 a2 a3 a4 a5 a6 a7 a8 a9 a10) (impl_Stock_do.f (k + 1) a0 a1 a2 a3 a4 a5 a6 a7 a8 a9 a10) := by
 intro a0 a1 a2 a3 a4 a5 a6 a7 a8 a9 a10 k
 unfold impl_Stock_do.f
 refine LeO.ite (impl_Stock_receive.mono _ _ _ _ _ _ _ _ _ _ _ _) (LeO.ite ?_ (LeO.ite (LeO.refl _) (LeO.ite ?_ (LeO.refl _))))
 ·unfold sellR
  exact LeO.ite (LeO.refl _) (LeO.ite (LeO.bind (sellF_mono _ _ _ _ _) (fun _ => LeO.refl _)) (LeO.refl _))
 ·unfold ofLotR
  exact LeO.bind (slices_IndexFunc_at_impl_Stock_lotAt_1.mono _ _ _ _) (fun _ => LeO.refl _)
def sdo.T7 : Bool × List (List Nat × List Nat) := (true, [([], []), ([0], [0]), ([], []), ([2], [2]), ([3], [3]), ([4], [4]), ([1, 5], [1, 5]), ([6], [6])])
def sdo.B7 : List Nat := [0, 1, 0, 4, 12, 28, 63, 127]
theorem sdo.tab7 : rtab .any (opsOf Try.f24 7) = sdo.T7 := by kernel_rfl
theorem sdo.bits7 : waitsOk sdo.T7.2 sdo.B7 = true := by kernel_rfl
set_option maxHeartbeats 64000000 in
set_option maxRecDepth 100000 in
theorem impl_Stock_do.calls (k : Nat) (gi0 : Nat) (a0_0 : Int) (a0_1 : Int) (a0_2 : Int) (a0_3 : Int) (a0_4 : Int) (P0_5_ : Nat → Prop) (u9000_ : Value) (l0_5 : List (S38)) (a1_0 : Int) (a1_1 : ByteArray) (a1_2 : Int) (a1_3 : Int) (a1_4 : Int) (r1 : Int) (r2 : Int) (r3 : Int) (r4 : Int) (r5 : Int) (r6 : Int) (r7 : Int) (r8 : List (S38)) (w0 w : World) (hB : Below w0.heap.size w0 w) (hbk0 : w.heap[gi0]? = some (.cells (zs6 a0_0 a0_1 a0_2 a0_3 a0_4 u9000_) 29 (0, 0))) (hge0 : w0.heap.size ≤ gi0) (ho0_5 : Kd.R k38 38 w w0.heap.size P0_5_ u9000_ l0_5) (h : impl_Stock_do.f k a0_0 a0_1 a0_2 a0_3 a0_4 l0_5 a1_0 a1_1 a1_2 a1_3 a1_4 = some (r1, r2, r3, r4, r5, r6, r7, r8)) :
  Calls Try.prog 24 #[.pointer (some ⟨gi0, 0, none⟩), .agg (za5 a1_0 a1_1 a1_2 a1_3 a1_4)] w fun e w' => ∃ v7_ : Value, e = .returned (.agg (zo2 r1 r2)) ∧ Kd.R k38 38 w' w0.heap.size (fun k_ => (P0_5_ k_ ∨ w.heap.size ≤ k_)) v7_ r8 ∧ w'.heap[gi0]? = some (.cells (zs6 r3 r4 r5 r6 r7 v7_) 29 (0, 0)) ∧ Below w0.heap.size w0 w' ∧ Kept w w' (fun k_ => (P0_5_ k_) ∨ k_ = gi0) := by
 generalize a0_0 = d0 at *
 generalize a0_1 = d1 at *
 generalize a0_2 = d2 at *
 generalize a0_3 = d3 at *
 generalize a0_4 = d4 at *
 generalize P0_5_ = P0 at *
 generalize u9000_ = u at *
 generalize l0_5 = l at *
 generalize a1_0 = x0 at *
 generalize a1_1 = x1 at *
 generalize a1_2 = x2 at *
 generalize a1_3 = x3 at *
 generalize a1_4 = x4 at *
 have hu34 := Try.underlying34
 have hu36 := Try.underlying36
 have hu38 := Try.underlying38
 have hu29 := Try.underlying29
 have hz36 := zero36
 have H0 := za (Bag.mk0 hB hbk0 hge0 ho0_5 zG84)
 clear hB hbk0 hge0 ho0_5
 unfold impl_Stock_do.f at h
 have HH := za h
 clear h
 go_enter Try.func24, Try.ntmps24
 go_upto_region 1 with (first | (refine box_bag H0.out 3 (za5 x0 x1 x2 x3 x4) 34 rfl ?_; intro xb w1 h_; have H1 := za h_; clear h_) | (refine box_bag H1.out 4 (zo2 0 0) 36 rfl ?_; intro rb w2 h_; have H2 := za h_; clear h_))
 have HPP := za (show ∀ k_, (fun k => P0 k ∧ k < w.heap.size ∧ k ≠ gi0) k_ → P0 k_ ∨ w.heap.size ≤ k_ from fun _ hk => .inl hk.1)
 clear H0 H1 hz36
 have qx0_w2 : w2.cell? ⟨xb, 0, none⟩ = some (.int .i64 x0) := (H2.out.cell 1 rfl 0).trans rfl
 have qx1_w2 : w2.cell? ⟨xb, 1, none⟩ = some (.string x1) := (H2.out.cell 1 rfl 1).trans rfl
 have qx2_w2 : w2.cell? ⟨xb, 2, none⟩ = some (.int .i64 x2) := (H2.out.cell 1 rfl 2).trans rfl
 have qx3_w2 : w2.cell? ⟨xb, 3, none⟩ = some (.int .i64 x3) := (H2.out.cell 1 rfl 3).trans rfl
 have qx4_w2 : w2.cell? ⟨xb, 4, none⟩ = some (.int .i64 x4) := (H2.out.cell 1 rfl 4).trans rfl
 have qr0_w2 : w2.cell? ⟨rb, 0, none⟩ = some (.int .i64 0) := (H2.out.cell 0 rfl 0).trans rfl
 have fr0_w2 := H2.out.froz 0 rfl 0
 have qr1_w2 : w2.cell? ⟨rb, 1, none⟩ = some (.int .i64 0) := (H2.out.cell 0 rfl 1).trans rfl
 have fr1_w2 := H2.out.froz 0 rfl 1
 have qg0_w2 : w2.cell? ⟨gi0, 0, none⟩ = some (.int .i64 d0) := (H2.out.cell 2 rfl 0).trans rfl
 have fg0_w2 := H2.out.froz 2 rfl 0
 by_cases k1 : x0 = 1
 ·subst k1
  have HX := za ((if_pos rfl).symm.trans HH.out)
  clear HH
  have HC := za (impl_Stock_receive.calls k gi0 d0 d1 d2 d3 d4 _ u l 1 x1 x2 x3 x4 r1 r2 _ _ _ _ _ _ w0 w2 H2.out.below (H2.out.get 2 rfl) H2.out.ge H2.out.row HX.out)
  go_wp2_with (first | (go_at_call 37; with_reducible refine HC.out.mono ?_; rintro e w3 ⟨v6, rfl, hr9, hc9, hb9, hk9⟩; have H3 := za (H2.out.call' 2 rfl hb9 hk9 hr9 hc9); have qr0_9 : w3.cell? ⟨rb, 0, none⟩ = some (.int .i64 0) := (H3.out.cell 0 rfl 0).trans rfl; have fr0_9 := H3.out.froz 0 rfl 0; have qr1_9 : w3.cell? ⟨rb, 1, none⟩ = some (.int .i64 0) := (H3.out.cell 0 rfl 1).trans rfl; have fr1_9 := H3.out.froz 0 rfl 1; clear hr9 hc9 hb9 hk9))
  have HZ := za (H3.out.puts (i := 0) [.int .i64 r1, .int .i64 r2] 0 rfl)
  refine bodyPost_ret (results_cell_row rfl _ _ rb 36 _ (0, 0) _ rfl (HZ.out.get 0 rfl) Try.underlying36 rfl zG83) rfl ?_
  have HF := HZ.out.fin (P0 := P0) (fun k_ hk => hk.1.elim (HPP.out k_) (fun hh => .inr (Nat.le_trans H2.out.kept.1 hh))) 2 rfl
  first | exact ⟨_, rfl, HF.1, HF.2.1, HF.2.2.1, HF.2.2.2⟩ | exact ⟨rfl, _, HF.1, HF.2.1, HF.2.2.1, HF.2.2.2⟩
 have h := HH.out
 rw [if_neg k1] at h
 clear HH
 have e1 : (x0 == 1) = false := beq_eq_false_iff_ne.mpr k1
 by_cases k2 : x0 = 2
 ·subst k2
  rw [if_pos rfl] at h
  have HX := za h
  clear h
  have HC := za (sell38 k gi0 d0 d1 d2 d3 d4 _ u l x1 x3 r1 r2 _ _ _ _ _ _ w0 w2 H2.out.below (H2.out.get 2 rfl) H2.out.ge H2.out.row HX.out)
  go_wp2_with (first | (go_at_call 38; with_reducible refine HC.out.mono ?_; rintro e w3 ⟨v6, rfl, hr9, hc9, hb9, hk9⟩; have H3 := za (H2.out.call' 2 rfl hb9 hk9 hr9 hc9); have qr0_9 : w3.cell? ⟨rb, 0, none⟩ = some (.int .i64 0) := (H3.out.cell 0 rfl 0).trans rfl; have fr0_9 := H3.out.froz 0 rfl 0; have qr1_9 : w3.cell? ⟨rb, 1, none⟩ = some (.int .i64 0) := (H3.out.cell 0 rfl 1).trans rfl; have fr1_9 := H3.out.froz 0 rfl 1; clear hr9 hc9 hb9 hk9))
  have HZ := za (H3.out.puts (i := 0) [.int .i64 r1, .int .i64 r2] 0 rfl)
  refine bodyPost_ret (results_cell_row rfl _ _ rb 36 _ (0, 0) _ rfl (HZ.out.get 0 rfl) Try.underlying36 rfl zG83) rfl ?_
  have HF := HZ.out.fin (P0 := P0) (fun k_ hk => hk.1.elim (HPP.out k_) (fun hh => .inr (Nat.le_trans H2.out.kept.1 hh))) 2 rfl
  first | exact ⟨_, rfl, HF.1, HF.2.1, HF.2.2.1, HF.2.2.2⟩ | exact ⟨rfl, _, HF.1, HF.2.1, HF.2.2.1, HF.2.2.2⟩
 rw [if_neg k2] at h
 have e2 : (x0 == 2) = false := beq_eq_false_iff_ne.mpr k2
 by_cases k3 : x0 = 3
 ·subst k3
  rw [if_pos rfl] at h
  clear k1 k2 e1 e2
  replace h := Option.bind_eq_some_iff.mp h
  obtain ⟨t, a5, h⟩ := h
  have A5 := za a5
  clear a5
  cases t with
  | false =>
   simp only [Bool.false_eq_true, if_false, Option.some.injEq, Prod.mk.injEq] at h
   obtain ⟨rfl, rfl, rfl, rfl, rfl, rfl, rfl, rfl⟩ := h
   go_wp2
   have H2d := za H2.out.drew
   refine start_ (n := 8) (S := fun w' => w'.cell? ⟨xb, 3, none⟩ = some (.int .i64 x3) ∧ w'.cell? ⟨gi0, 0, none⟩ = some (.int .i64 d0)) (ds := []) (zM 8 0) zG83 rfl rfl ⟨(H2d.out.cell 1 rfl 3).trans rfl, (H2d.out.cell 2 rfl 0).trans rfl⟩ (fun hHeld => ?_)
   refine with_tabW sdo.tab7 sdo.bits7 (fun HT_ HW_ => ?_)
   refine zP 0 22 (zM 8 1) HT_ ?_
   refine zQ 1 23 (zM 8 3) HT_ HW_ hHeld ?_
   refine zP 2 24 (zM 8 7) HT_ ?_
   refine zP 3 25 (zM 8 15) HT_ ?_
   refine zP 4 26 (zM 8 31) HT_ ?_
   refine zQ 5 27 (zM 8 63) HT_ HW_ hHeld ?_
   refine one_ (i := 6) (N := some 28) (zM 8 127) rfl rfl (one_of HT_.out zG83) zG84 (fun K hK => ?_)
   refine goes_ Try.func39 zG83 rfl #[.int .i64 x3, .int .i64 d0, .int .i64 100000] (by rfl) rfl rfl zK166 ?_
   with_reducible refine (impl_within.calls x3 d0 100000 false _ A5.out).mono ?_
   rintro e w4 ⟨rfl, ⟨nd, rfl⟩⟩
   refine ⟨_, rfl, ?_⟩
   have H3d := za (H2d.out.drewN nd)
   refine hK.out _ _ ⟨(H3d.out.cell 1 rfl 3).trans rfl, (H3d.out.cell 2 rfl 0).trans rfl⟩ (fun hHeld => ?_)
   clear hK K
   refine norm_ (a' := ?_) ?_ ?_
   rotate_left
   ·show Act.put _ (some 28) _ = _
    simp only [Act.put, List.setIfInBounds_toArray, List.set_cons_zero, List.set_cons_succ, i64_w, i32_w]
    rfl
   refine zP 7 29 (zM 8 255) HT_ ?_
   refine done_ (done_of HT_.out zG83) ?_
   have H3 := za (H2.out.drewN (1 + nd))
   go_wp2
   have HZ := za (H3.out.puts (i := 0) [.int .i64 5, .int .i64 0] 0 rfl)
   refine bodyPost_ret (results_cell_row rfl _ _ rb 36 _ (0, 0) _ rfl (HZ.out.get 0 rfl) Try.underlying36 rfl zG83) rfl ?_
   have HF := HZ.out.fin (P0 := P0) HPP.out 2 rfl
   first | exact ⟨_, rfl, HF.1, HF.2.1, HF.2.2.1, HF.2.2.2⟩ | exact ⟨rfl, _, HF.1, HF.2.1, HF.2.2.1, HF.2.2.2⟩
  | true =>
   simp only [if_true, Option.some.injEq, Prod.mk.injEq] at h
   obtain ⟨rfl, rfl, rfl, rfl, rfl, rfl, rfl, rfl⟩ := h
   go_wp2
   have H2d := za H2.out.drew
   refine start_ (n := 8) (S := fun w' => w'.cell? ⟨xb, 3, none⟩ = some (.int .i64 x3) ∧ w'.cell? ⟨gi0, 0, none⟩ = some (.int .i64 d0)) (ds := []) (zM 8 0) zG83 rfl rfl ⟨(H2d.out.cell 1 rfl 3).trans rfl, (H2d.out.cell 2 rfl 0).trans rfl⟩ (fun hHeld => ?_)
   refine with_tabW sdo.tab7 sdo.bits7 (fun HT_ HW_ => ?_)
   refine zP 0 22 (zM 8 1) HT_ ?_
   refine zQ 1 23 (zM 8 3) HT_ HW_ hHeld ?_
   refine zP 2 24 (zM 8 7) HT_ ?_
   refine zP 3 25 (zM 8 15) HT_ ?_
   refine zP 4 26 (zM 8 31) HT_ ?_
   refine zQ 5 27 (zM 8 63) HT_ HW_ hHeld ?_
   refine one_ (i := 6) (N := some 28) (zM 8 127) rfl rfl (one_of HT_.out zG83) zG84 (fun K hK => ?_)
   refine goes_ Try.func39 zG83 rfl #[.int .i64 x3, .int .i64 d0, .int .i64 100000] (by rfl) rfl rfl zK166 ?_
   with_reducible refine (impl_within.calls x3 d0 100000 true _ A5.out).mono ?_
   rintro e w4 ⟨rfl, ⟨nd, rfl⟩⟩
   refine ⟨_, rfl, ?_⟩
   have H3d := za (H2d.out.drewN nd)
   refine hK.out _ _ ⟨(H3d.out.cell 1 rfl 3).trans rfl, (H3d.out.cell 2 rfl 0).trans rfl⟩ (fun hHeld => ?_)
   clear hK K
   refine norm_ (a' := ?_) ?_ ?_
   rotate_left
   ·show Act.put _ (some 28) _ = _
    simp only [Act.put, List.setIfInBounds_toArray, List.set_cons_zero, List.set_cons_succ, i64_w, i32_w]
    rfl
   refine zP 7 29 (zM 8 255) HT_ ?_
   refine done_ (done_of HT_.out zG83) ?_
   have H3 := za ((H2.out.drewN (1 + nd)).put 2 0 (.int .i64 x3) rfl rfl)
   have hne1 := blk_ne (H2.out.get 1 rfl) (H2.out.get 2 rfl) zG84
   have hne2 := blk_ne (H2.out.get 0 rfl) (H2.out.get 2 rfl) zG84
   have hne3 := hne1.symm
   have hne4 := hne2.symm
   go_wp2
   have HZ := za (H3.out.puts (i := 0) [.int .i64 0, .int .i64 x3] 0 rfl)
   refine bodyPost_ret (results_cell_row rfl _ _ rb 36 _ (0, 0) _ rfl (HZ.out.get 0 rfl) Try.underlying36 rfl zG83) rfl ?_
   have HF := HZ.out.fin (P0 := P0) HPP.out 2 rfl
   first | exact ⟨_, rfl, HF.1, HF.2.1, HF.2.2.1, HF.2.2.2⟩ | exact ⟨rfl, _, HF.1, HF.2.1, HF.2.2.1, HF.2.2.2⟩
 rw [if_neg k3] at h
 have e3 : (x0 == 3) = false := beq_eq_false_iff_ne.mpr k3
 by_cases k4 : x0 = 4 ∨ x0 = 5 ∨ x0 = 6 ∨ x0 = 7
 ·rw [if_pos k4] at h
  have HX := za h
  clear h
  have HC := za (ofLot40 k gi0 d0 d1 d2 d3 d4 _ u l x0 x1 x2 x3 x4 r1 r2 _ _ _ _ _ _ w0 w2 H2.out.below (H2.out.get 2 rfl) H2.out.ge H2.out.row HX.out)
  clear k1 k2 k3
  rcases k4 with rfl | rfl | rfl | rfl
  ·go_wp2_with (first | (go_at_call 40; with_reducible refine HC.out.mono ?_; rintro e w3 ⟨v6, rfl, hr9, hc9, hb9, hk9⟩; have H3 := za (H2.out.call' 2 rfl hb9 hk9 hr9 hc9); have qr0_9 : w3.cell? ⟨rb, 0, none⟩ = some (.int .i64 0) := (H3.out.cell 0 rfl 0).trans rfl; have fr0_9 := H3.out.froz 0 rfl 0; have qr1_9 : w3.cell? ⟨rb, 1, none⟩ = some (.int .i64 0) := (H3.out.cell 0 rfl 1).trans rfl; have fr1_9 := H3.out.froz 0 rfl 1; clear hr9 hc9 hb9 hk9))
   have HZ := za (H3.out.puts (i := 0) [.int .i64 r1, .int .i64 r2] 0 rfl)
   refine bodyPost_ret (results_cell_row rfl _ _ rb 36 _ (0, 0) _ rfl (HZ.out.get 0 rfl) Try.underlying36 rfl zG83) rfl ?_
   have HF := HZ.out.fin (P0 := P0) (fun k_ hk => hk.1.elim (HPP.out k_) (fun hh => .inr (Nat.le_trans H2.out.kept.1 hh))) 2 rfl
   first | exact ⟨_, rfl, HF.1, HF.2.1, HF.2.2.1, HF.2.2.2⟩ | exact ⟨rfl, _, HF.1, HF.2.1, HF.2.2.1, HF.2.2.2⟩
  ·go_wp2_with (first | (go_at_call 40; with_reducible refine HC.out.mono ?_; rintro e w3 ⟨v6, rfl, hr9, hc9, hb9, hk9⟩; have H3 := za (H2.out.call' 2 rfl hb9 hk9 hr9 hc9); have qr0_9 : w3.cell? ⟨rb, 0, none⟩ = some (.int .i64 0) := (H3.out.cell 0 rfl 0).trans rfl; have fr0_9 := H3.out.froz 0 rfl 0; have qr1_9 : w3.cell? ⟨rb, 1, none⟩ = some (.int .i64 0) := (H3.out.cell 0 rfl 1).trans rfl; have fr1_9 := H3.out.froz 0 rfl 1; clear hr9 hc9 hb9 hk9))
   have HZ := za (H3.out.puts (i := 0) [.int .i64 r1, .int .i64 r2] 0 rfl)
   refine bodyPost_ret (results_cell_row rfl _ _ rb 36 _ (0, 0) _ rfl (HZ.out.get 0 rfl) Try.underlying36 rfl zG83) rfl ?_
   have HF := HZ.out.fin (P0 := P0) (fun k_ hk => hk.1.elim (HPP.out k_) (fun hh => .inr (Nat.le_trans H2.out.kept.1 hh))) 2 rfl
   first | exact ⟨_, rfl, HF.1, HF.2.1, HF.2.2.1, HF.2.2.2⟩ | exact ⟨rfl, _, HF.1, HF.2.1, HF.2.2.1, HF.2.2.2⟩
  ·go_wp2_with (first | (go_at_call 40; with_reducible refine HC.out.mono ?_; rintro e w3 ⟨v6, rfl, hr9, hc9, hb9, hk9⟩; have H3 := za (H2.out.call' 2 rfl hb9 hk9 hr9 hc9); have qr0_9 : w3.cell? ⟨rb, 0, none⟩ = some (.int .i64 0) := (H3.out.cell 0 rfl 0).trans rfl; have fr0_9 := H3.out.froz 0 rfl 0; have qr1_9 : w3.cell? ⟨rb, 1, none⟩ = some (.int .i64 0) := (H3.out.cell 0 rfl 1).trans rfl; have fr1_9 := H3.out.froz 0 rfl 1; clear hr9 hc9 hb9 hk9))
   have HZ := za (H3.out.puts (i := 0) [.int .i64 r1, .int .i64 r2] 0 rfl)
   refine bodyPost_ret (results_cell_row rfl _ _ rb 36 _ (0, 0) _ rfl (HZ.out.get 0 rfl) Try.underlying36 rfl zG83) rfl ?_
   have HF := HZ.out.fin (P0 := P0) (fun k_ hk => hk.1.elim (HPP.out k_) (fun hh => .inr (Nat.le_trans H2.out.kept.1 hh))) 2 rfl
   first | exact ⟨_, rfl, HF.1, HF.2.1, HF.2.2.1, HF.2.2.2⟩ | exact ⟨rfl, _, HF.1, HF.2.1, HF.2.2.1, HF.2.2.2⟩
  ·go_wp2_with (first | (go_at_call 40; with_reducible refine HC.out.mono ?_; rintro e w3 ⟨v6, rfl, hr9, hc9, hb9, hk9⟩; have H3 := za (H2.out.call' 2 rfl hb9 hk9 hr9 hc9); have qr0_9 : w3.cell? ⟨rb, 0, none⟩ = some (.int .i64 0) := (H3.out.cell 0 rfl 0).trans rfl; have fr0_9 := H3.out.froz 0 rfl 0; have qr1_9 : w3.cell? ⟨rb, 1, none⟩ = some (.int .i64 0) := (H3.out.cell 0 rfl 1).trans rfl; have fr1_9 := H3.out.froz 0 rfl 1; clear hr9 hc9 hb9 hk9))
   have HZ := za (H3.out.puts (i := 0) [.int .i64 r1, .int .i64 r2] 0 rfl)
   refine bodyPost_ret (results_cell_row rfl _ _ rb 36 _ (0, 0) _ rfl (HZ.out.get 0 rfl) Try.underlying36 rfl zG83) rfl ?_
   have HF := HZ.out.fin (P0 := P0) (fun k_ hk => hk.1.elim (HPP.out k_) (fun hh => .inr (Nat.le_trans H2.out.kept.1 hh))) 2 rfl
   first | exact ⟨_, rfl, HF.1, HF.2.1, HF.2.2.1, HF.2.2.2⟩ | exact ⟨rfl, _, HF.1, HF.2.1, HF.2.2.1, HF.2.2.2⟩
 rw [if_neg k4] at h
 simp only [Option.some.injEq, Prod.mk.injEq] at h
 obtain ⟨rfl, rfl, rfl, rfl, rfl, rfl, rfl, rfl⟩ := h
 have e4 : (x0 == 4) = false := beq_eq_false_iff_ne.mpr (fun hh => k4 (.inl hh))
 have e5 : (x0 == 5) = false := beq_eq_false_iff_ne.mpr (fun hh => k4 (.inr (.inl hh)))
 have e6 : (x0 == 6) = false := beq_eq_false_iff_ne.mpr (fun hh => k4 (.inr (.inr (.inl hh))))
 have e7 : (x0 == 7) = false := beq_eq_false_iff_ne.mpr (fun hh => k4 (.inr (.inr (.inr hh))))
 clear k1 k2 k3 k4
 go_wp2
 have HZ := za (H2.out.puts (i := 0) [.int .i64 13, .int .i64 0] 0 rfl)
 refine bodyPost_ret (results_cell_row rfl _ _ rb 36 _ (0, 0) _ rfl (HZ.out.get 0 rfl) Try.underlying36 rfl zG83) rfl ?_
 have HF := HZ.out.fin (P0 := P0) HPP.out 2 rfl
 first | exact ⟨_, rfl, HF.1, HF.2.1, HF.2.2.1, HF.2.2.2⟩ | exact ⟨rfl, _, HF.1, HF.2.1, HF.2.2.1, HF.2.2.2⟩

end Go.Proofs.Ytnkceaibkfbeaaa.E
