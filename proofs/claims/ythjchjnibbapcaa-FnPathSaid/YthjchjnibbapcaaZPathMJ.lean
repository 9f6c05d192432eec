/- The shortest way is the least of all orders' ways. -/
import Derived.Test.YthjchjnibbapcaaZOrdJ
namespace Go.Proofs.Ythjchjnibbapcaa.ZPathMJ
open Go.RowKit Go.Proofs.Ythjchjnibbapcaa.J Go.Proofs.Ythjchjnibbapcaa.Lib Go.Proofs.Ythjchjnibbapcaa.ZOrdJ Go.Proofs.YthjchjnibbapcaaW.PrintWords Go.Proofs.YthjchjnibbapcaaW.PrintLast Go.Proofs.YthjchjnibbapcaaW.PrintMore
structure Metr (D : S45 → S45 → Int) (ok : S45 → Prop) : Prop where
  bd : ∀ p q, ok p → ok q → 0 ≤ D p q ∧ D p q ≤ 5000
  sy : ∀ p q, ok p → ok q → D p q = D q p
  tri : ∀ p q r, ok p → ok q → ok r → D p r ≤ D p q + D q r
  z : ok ⟨0, 0⟩
def pl (D : S45 → S45 → Int) : S45 → List S45 → S45 → Int
  | s, [], t => D s t
  | s, p :: u, t => D s p + pl D p u t
def ln (D : S45 → S45 → Int) (l : List S45) (s : S45) (o : List Int) : Int := pl D s (o.map (rd_T45 l)) ⟨0, 0⟩
section
variable {D : S45 → S45 → Int} {ok : S45 → Prop} {l : List S45}
theorem pl_app : ∀ (u v : List S45) (s p t : S45), pl D s (u ++ p :: v) t = pl D s u p + pl D p v t
  | [], v, s, p, t => rfl
  | x :: u, v, s, p, t => by
    show D s x + pl D x (u ++ p :: v) t = D s x + pl D x u p + pl D p v t
    rw [pl_app u v x p t]; omega
theorem pl_ge (M : Metr D ok) : ∀ (u : List S45) (s t : S45), (∀ p ∈ u, ok p) → ok s → ok t → D s t ≤ pl D s u t
  | [], s, t, _, _, _ => Int.le_refl _
  | x :: u, s, t, h, hs, ht => by
    have h1 := pl_ge M u x t (fun p hp => h p (by simp [hp])) (h x (by simp)) ht
    have h2 := M.tri s x t hs (h x (by simp)) ht
    show D s t ≤ D s x + pl D x u t
    omega
theorem pl_rev (M : Metr D ok) : ∀ (u : List S45) (s t : S45), (∀ p ∈ u, ok p) → ok s → ok t → pl D t u.reverse s = pl D s u t
  | [], s, t, _, hs, ht => M.sy t s ht hs
  | x :: u, s, t, h, hs, ht => by
    have hx := h x (by simp)
    rw [List.reverse_cons, pl_app, pl_rev M u x t (fun p hp => h p (by simp [hp])) hx ht]
    show pl D x u t + D x s = D s x + pl D x u t
    rw [M.sy x s hx hs]; omega
theorem pl_step (M : Metr D ok) : ∀ (v : List S45) (s p t : S45), (∀ q ∈ v, ok q) → ok s → ok p → ok t → pl D s v t ≤ D s p + pl D p v t
  | [], s, p, t, _, hs, hp, ht => M.tri s p t hs hp ht
  | q :: v, s, p, t, h, hs, hp, ht => by
    have := M.tri s p q hs hp (h q (by simp))
    show D s q + pl D q v t ≤ D s p + (D p q + pl D q v t)
    omega
theorem pl_drop (M : Metr D ok) : ∀ (u v : List S45) (s p t : S45), (∀ q ∈ u ++ p :: v, ok q) → ok s → ok t → pl D s (u ++ v) t ≤ pl D s (u ++ p :: v) t
  | [], v, s, p, t, h, hs, ht => pl_step M v s p t (fun q hq => h q (by simp [hq])) hs (h p (by simp)) ht
  | x :: u, v, s, p, t, h, hs, ht => by
    have := pl_drop M u v x p t (fun q hq => h q (by simp at hq ⊢; exact .inr hq)) (h x (by simp)) ht
    show D s x + pl D x (u ++ v) t ≤ D s x + pl D x (u ++ p :: v) t
    omega
theorem rdok (M : Metr D ok) (hl : ∀ p ∈ l, ok p) (x : Int) : ok (rd_T45 l x) := by
  unfold rd_T45
  rw [List.getD_eq_getElem?_getD]
  by_cases h : x.toNat < l.length
  · rw [List.getElem?_eq_getElem h]; exact hl _ (List.getElem_mem h)
  · rw [List.getElem?_eq_none (by omega)]; exact M.z
theorem mapok (M : Metr D ok) (hl : ∀ p ∈ l, ok p) (o : List Int) : ∀ p ∈ o.map (rd_T45 l), ok p := by
  intro p hp
  obtain ⟨x, _, rfl⟩ := List.mem_map.1 hp
  exact rdok M hl x
theorem has_bit {n m : Nat} (hm : m < 2 ^ n) (h0 : m ≠ 0) : ¬ ∀ i, i < n → m.testBit i = false := by
  intro h
  apply h0
  apply Nat.eq_of_testBit_eq
  intro i
  rw [Nat.zero_testBit]
  by_cases hi : i < n
  · exact h i hi
  · exact Nat.testBit_lt_two_pow (Nat.lt_of_lt_of_le hm (Nat.pow_le_pow_right (by omega) (by omega)))
theorem sh_bdk (M : Metr D ok) (hl : ∀ p ∈ l, ok p) (h9 : l.length ≤ 9) : ∀ k m s, pc l.length m ≤ k → m < 2 ^ l.length → ok s → 0 ≤ sh D l m s ∧ sh D l m s ≤ 5000 * ((pc l.length m : Int) + 1) := by
  intro k
  induction k with
  | zero =>
    intro m s hp hm hs
    have := pc_zero hm (by omega)
    subst this
    rw [sh_zero]
    have := M.bd s ⟨0, 0⟩ hs M.z
    omega
  | succ k ih =>
    intro m s hp hm hs
    by_cases h0 : m = 0
    · subst h0
      rw [sh_zero]
      have := M.bd s ⟨0, 0⟩ hs M.z
      omega
    · rw [sh_step D l hm h0 s]
      rcases bestI_hit (fun i => wrap64 (D s (rd_T45 l i) + sh D l (clr m i) (rd_T45 l i))) (fun i => m.testBit i) l.length with ⟨_, h2⟩ | ⟨i, hi, h1, h2⟩
      · exact absurd h2 (has_bit hm h0)
      · rw [h2]
        have hc := pc_clr m i h1 l.length hi
        have hb := ih (clr m i) (rd_T45 l i) (by omega) (clr_lt hm hi) (rdok M hl _)
        have hd := M.bd s (rd_T45 l i) hs (rdok M hl _)
        have hle := pc_le m l.length
        rw [w64 (by omega) (by omega)]
        omega
theorem sh_bd (M : Metr D ok) (hl : ∀ p ∈ l, ok p) (h9 : l.length ≤ 9) {m : Nat} {s : S45} (hm : m < 2 ^ l.length) (hs : ok s) : 0 ≤ sh D l m s ∧ sh D l m s ≤ 50000 := by
  have h := sh_bdk M hl h9 _ m s (Nat.le_refl _) hm hs
  have := pc_le m l.length
  omega
theorem bestI_le {g : Nat → Int} {k : Nat → Bool} : ∀ n, (∀ i, i < n → k i = true → 0 ≤ g i) → ∀ i, i < n → k i = true → 0 ≤ bestI g k n ∧ bestI g k n ≤ g i
  | 0, _, i, hi, _ => by omega
  | n + 1, h, i, hi, hk => by
    unfold bestI
    by_cases hn : k n = true
    · rw [if_pos hn]
      have hg := h n (by omega) hn
      by_cases hc : bestI g k n < 0 ∨ g n < bestI g k n
      · rw [if_pos hc]
        refine ⟨hg, ?_⟩
        by_cases e : i = n
        · subst e; exact Int.le_refl _
        · have := bestI_le n (fun i hi => h i (by omega)) i (by omega) hk
          omega
      · rw [if_neg hc]
        refine ⟨by omega, ?_⟩
        by_cases e : i = n
        · subst e; omega
        · exact (bestI_le n (fun i hi => h i (by omega)) i (by omega) hk).2
    · rw [if_neg hn]
      have e : i ≠ n := fun e => hn (e ▸ hk)
      exact bestI_le n (fun i hi => h i (by omega)) i (by omega) hk
theorem sh_le (M : Metr D ok) (hl : ∀ p ∈ l, ok p) (h9 : l.length ≤ 9) {m i : Nat} {s : S45} (hm : m < 2 ^ l.length) (hs : ok s) (hi : i < l.length) (hb : m.testBit i = true) : sh D l m s ≤ D s (rd_T45 l i) + sh D l (clr m i) (rd_T45 l i) := by
  have h0 : m ≠ 0 := fun e => by subst e; rw [Nat.zero_testBit] at hb; cases hb
  have w : ∀ j, j < l.length → m.testBit j = true → wrap64 (D s (rd_T45 l j) + sh D l (clr m j) (rd_T45 l j)) = D s (rd_T45 l j) + sh D l (clr m j) (rd_T45 l j) ∧ 0 ≤ D s (rd_T45 l j) + sh D l (clr m j) (rd_T45 l j) := by
    intro j hj hbj
    have h1 := M.bd s (rd_T45 l j) hs (rdok M hl _)
    have h2 := sh_bd M hl h9 (clr_lt hm hj) (rdok M hl (j : Int)) (m := clr m j)
    exact ⟨w64 (by omega) (by omega), by omega⟩
  rw [sh_step D l hm h0 s]
  have h := (bestI_le (g := fun i => wrap64 (D s (rd_T45 l i) + sh D l (clr m i) (rd_T45 l i))) (k := fun i => m.testBit i) l.length (fun j hj hk => by rw [(w j hj hk).1]; exact (w j hj hk).2) i hi hb).2
  rw [(w i hi hb).1] at h
  exact h
theorem sh_ln (M : Metr D ok) (hl : ∀ p ∈ l, ok p) (h9 : l.length ≤ 9) : ∀ (o : List Int) (m : Nat) (s : S45), m < 2 ^ l.length → ok s → o.Nodup → (∀ x ∈ o, 0 ≤ x ∧ x < (l.length : Int)) → (∀ i : Nat, i < l.length → (m.testBit i = true ↔ (i : Int) ∈ o)) → sh D l m s ≤ ln D l s o
  | [], m, s, hm, hs, _, _, hb => by
    have h0 : m = 0 := Decidable.byContradiction fun h => has_bit hm h (fun i hi => Bool.eq_false_iff.2 (fun e => by have := (hb i hi).1 e; cases this))
    subst h0
    rw [sh_zero]
    exact Int.le_refl _
  | x :: o, m, s, hm, hs, hn, hr, hb => by
    obtain ⟨h1, h2⟩ := hr x (by simp)
    obtain ⟨i, rfl⟩ := Int.eq_ofNat_of_zero_le h1
    have hi : i < l.length := by omega
    have hbi := (hb i hi).2 (by simp)
    have hnd := List.nodup_cons.1 hn
    have h3 := sh_ln M hl h9 o (clr m i) (rd_T45 l (i : Int)) (clr_lt hm hi) (rdok M hl _) hnd.2 (fun y hy => hr y (by simp [hy])) (fun j hj => by
      rw [clr_bit m i j hbi]
      have hbj := hb j hj
      by_cases e : j = i
      · subst e
        simp [hnd.1]
      · have e2 : (j != i) = true := by simp [e]
        rw [e2, Bool.and_true, hbj, List.mem_cons]
        constructor
        · intro h; rcases h with h | h
          · exact absurd (Int.ofNat_inj.1 h) e
          · exact h
        · exact fun h => .inr h)
    have h4 := sh_le M hl h9 hm hs hi hbi
    show _ ≤ D s (rd_T45 l (i : Int)) + ln D l (rd_T45 l (i : Int)) o
    omega
theorem fst_spec (f : Nat → Bool) : ∀ n, (fst f n < n → f (fst f n) = true) ∧ ((∃ i, i < n ∧ f i = true) → fst f n < n)
  | 0 => ⟨fun h => by simp [fst] at h, fun ⟨i, hi, _⟩ => by omega⟩
  | n + 1 => by
    obtain ⟨h1, h2⟩ := fst_spec f n
    unfold fst
    by_cases c : fst f n < n
    · rw [if_pos c]; exact ⟨fun _ => h1 c, fun _ => by omega⟩
    · rw [if_neg c]
      by_cases d : f n = true
      · rw [if_pos d]; exact ⟨fun _ => d, fun _ => by omega⟩
      · rw [if_neg d]
        refine ⟨fun h => by omega, fun ⟨i, hi, hf⟩ => ?_⟩
        by_cases e : i = n
        · subst e; exact absurd hf d
        · exact absurd (h2 ⟨i, by omega, hf⟩) c
theorem ordF_ok (M : Metr D ok) (hl : ∀ p ∈ l, ok p) (h9 : l.length ≤ 9) : ∀ k m s, pc l.length m ≤ k → m < 2 ^ l.length → ok s → (ordF D l k m s).Nodup ∧ (∀ x ∈ ordF D l k m s, 0 ≤ x ∧ x < (l.length : Int)) ∧ (∀ i : Nat, i < l.length → (m.testBit i = true ↔ (i : Int) ∈ ordF D l k m s)) ∧ ln D l s (ordF D l k m s) = sh D l m s := by
  intro k
  induction k with
  | zero =>
    intro m s hp hm hs
    have := pc_zero hm (by omega)
    subst this
    rw [ordF_zero, sh_zero]
    exact ⟨List.nodup_nil, by simp, fun i hi => by simp, rfl⟩
  | succ k ih =>
    intro m s hp hm hs
    by_cases h0 : m = 0
    · subst h0
      rw [ordF_zero, sh_zero]
      exact ⟨List.nodup_nil, by simp, fun i hi => by simp, rfl⟩
    · unfold ordF
      rw [if_neg h0]
      have hf := fst_spec (hitB D l m s) l.length
      have hlt := hf.2 (hit_ex D l hm h0 s)
      have hh := hf.1 hlt
      generalize fst (hitB D l m s) l.length = i at hlt hh ⊢
      unfold hitB GG at hh
      rw [Bool.and_eq_true] at hh
      obtain ⟨hb, hq⟩ := hh
      have hq := eq_of_beq hq
      have hc := pc_clr m i hb l.length hlt
      obtain ⟨q1, q2, q3, q4⟩ := ih (clr m i) (rd_T45 l (i : Int)) (by omega) (clr_lt hm hlt) (rdok M hl _)
      generalize ordF D l k (clr m i) (rd_T45 l (i : Int)) = F at q1 q2 q3 q4 ⊢
      have hnot : (i : Int) ∉ F := fun h => by
        have := (q3 i hlt).2 h
        rw [clr_bit m i i hb] at this
        simp at this
      refine ⟨List.nodup_cons.2 ⟨hnot, q1⟩, fun x hx => ?_, fun j hj => ?_, ?_⟩
      · rcases List.mem_cons.1 hx with rfl | hx
        · omega
        · exact q2 x hx
      · rw [List.mem_cons, ← q3 j hj, clr_bit m i j hb]
        by_cases e : j = i
        · subst e; simp [hb]
        · have e2 : (j != i) = true := by simp [e]
          rw [e2, Bool.and_true]
          constructor
          · exact fun h => .inr h
          · intro h; rcases h with h | h
            · exact absurd (Int.ofNat_inj.1 h) e
            · exact h
      · show D s (rd_T45 l (i : Int)) + ln D l (rd_T45 l (i : Int)) F = _
        rw [q4, ← hq]
        have h1 := M.bd s (rd_T45 l (i : Int)) hs (rdok M hl _)
        have h2 := sh_bd M hl h9 (clr_lt hm hlt) (rdok M hl (i : Int)) (m := clr m i)
        exact (w64 (by omega) (by omega)).symm
def best (D : S45 → S45 → Int) (l : List S45) : Int := sh D l (2 ^ l.length - 1) ⟨0, 0⟩
def bestO (D : S45 → S45 → Int) (l : List S45) : List Int := ordF D l l.length (2 ^ l.length - 1) ⟨0, 0⟩
theorem full_bit (n i : Nat) (hi : i < n) : (2 ^ n - 1).testBit i = true := by rw [Nat.testBit_two_pow_sub_one]; simp [hi]
theorem best_ord (M : Metr D ok) (hl : ∀ p ∈ l, ok p) (h9 : l.length ≤ 9) : Ord l.length (bestO D l) ∧ ln D l ⟨0, 0⟩ (bestO D l) = best D l := by
  obtain ⟨q1, q2, q3, q4⟩ := ordF_ok M hl h9 l.length (2 ^ l.length - 1) ⟨0, 0⟩ (pc_le _ _) (full_lt _) M.z
  have h1 := pig l.length (bestO D l) q1 q2
  have h2 := pig2 l.length (bestO D l) (fun i hi => (q3 i hi).1 (full_bit _ _ hi))
  exact ⟨⟨by omega, q2, q1⟩, q4⟩
theorem best_le (M : Metr D ok) (hl : ∀ p ∈ l, ok p) (h9 : l.length ≤ 9) {o : List Int} (ho : Ord l.length o) : best D l ≤ ln D l ⟨0, 0⟩ o :=
  sh_ln M hl h9 o _ _ (full_lt _) M.z ho.nd ho.rng (fun i hi => ⟨fun _ => ho.has i hi, fun _ => full_bit _ _ hi⟩)
theorem ln_rev (M : Metr D ok) (hl : ∀ p ∈ l, ok p) (o : List Int) : ln D l ⟨0, 0⟩ o.reverse = ln D l ⟨0, 0⟩ o := by
  unfold ln
  rw [List.map_reverse]
  exact pl_rev M _ _ _ (mapok M hl o) M.z M.z
theorem ord_rev {n : Nat} {o : List Int} (h : Ord n o) : Ord n o.reverse :=
  ⟨by rw [List.length_reverse]; exact h.len, fun x hx => h.rng x (List.mem_reverse.1 hx), (List.reverse_perm o).nodup_iff.2 h.nd⟩
theorem rd_drop {p : S45} {l : List S45} {x : Int} (h : 0 ≤ x) : rd_T45 l x = rd_T45 (p :: l) (x + 1) := by
  obtain ⟨v, rfl⟩ := Int.eq_ofNat_of_zero_le h
  unfold rd_T45
  rw [show ((v : Int) + 1).toNat = v + 1 by omega, Int.toNat_natCast]
  rfl
theorem best_less {p : S45} (M : Metr D ok) (hl : ∀ q ∈ p :: l, ok q) (h9 : l.length + 1 ≤ 9) : best D l ≤ best D (p :: l) ∧ 2 * D ⟨0, 0⟩ p ≤ best D (p :: l) ∧ best D (p :: l) ≤ best D l + 2 * D ⟨0, 0⟩ p := by
  have hp := hl p (by simp)
  have hl' : ∀ q ∈ l, ok q := fun q hq => hl q (by simp [hq])
  obtain ⟨ho, he⟩ := best_ord M hl (by rw [List.length_cons]; omega)
  obtain ⟨ho', he'⟩ := best_ord M hl' (by omega)
  generalize bestO D (p :: l) = o at ho he
  generalize bestO D l = o' at ho' he'
  rw [List.length_cons] at ho
  obtain ⟨u, v, huv⟩ := List.append_of_mem (ho.has 0 (by omega))
  have hz : rd_T45 (p :: l) ((0 : Nat) : Int) = p := rfl
  have hmap : o.map (rd_T45 (p :: l)) = u.map (rd_T45 (p :: l)) ++ p :: v.map (rd_T45 (p :: l)) := by rw [huv, List.map_append, List.map_cons, hz]
  have ha := mapok M hl o
  rw [hmap] at ha
  have hsy := M.sy p ⟨0, 0⟩ hp M.z
  refine ⟨?_, ?_, ?_⟩
  · have hnd := ho.nd
    rw [huv] at hnd
    have hnd2 := List.nodup_append.1 hnd
    have hcons := List.nodup_cons.1 hnd2.2.1
    have hmem : ∀ x ∈ u ++ v, x ≠ 0 ∧ 0 ≤ x ∧ x < ((l.length + 1 : Nat) : Int) := by
      intro x hx
      refine ⟨fun e => ?_, ho.rng x (by rw [huv]; rcases List.mem_append.1 hx with h | h <;> simp [h])⟩
      subst e
      rcases List.mem_append.1 hx with h | h
      · exact hnd2.2.2 0 h 0 (by simp) rfl
      · exact hcons.1 h
    have ho2 : Ord l.length ((u ++ v).map (fun x => x - 1)) := by
      refine ⟨?_, fun x hx => ?_, ?_⟩
      · have := ho.len
        rw [huv, List.length_append, List.length_cons] at this
        rw [List.length_map, List.length_append]
        omega
      · obtain ⟨y, hy, rfl⟩ := List.mem_map.1 hx
        have := hmem y hy
        omega
      · have hs : (u ++ v).Nodup := List.nodup_append.2 ⟨hnd2.1, hcons.2, fun a ha b hb => hnd2.2.2 a ha b (by simp [hb])⟩
        exact List.pairwise_map.2 (List.Pairwise.imp (fun h e => h (by omega)) hs)
    have h1 := best_le M hl' (by omega) ho2
    have e1 : ((u ++ v).map (fun x => x - 1)).map (rd_T45 l) = u.map (rd_T45 (p :: l)) ++ v.map (rd_T45 (p :: l)) := by
      rw [List.map_map, ← List.map_append]
      apply List.map_congr_left
      intro x hx
      have := hmem x hx
      show rd_T45 l (x - 1) = _
      rw [rd_drop (p := p) (show 0 ≤ x - 1 by omega)]
      congr 1; omega
    have h2 := pl_drop M _ _ ⟨0, 0⟩ p ⟨0, 0⟩ ha M.z M.z
    unfold ln at h1 he
    rw [e1] at h1
    rw [hmap] at he
    omega
  · unfold ln at he
    rw [hmap, pl_app] at he
    have h1 := pl_ge M (u.map (rd_T45 (p :: l))) ⟨0, 0⟩ p (fun q hq => ha q (by simp only [List.mem_append]; exact .inl hq)) M.z hp
    have h2 := pl_ge M (v.map (rd_T45 (p :: l))) p ⟨0, 0⟩ (fun q hq => ha q (by simp only [List.mem_append, List.mem_cons]; exact .inr (.inr hq))) hp M.z
    omega
  · have ho3 : Ord (l.length + 1) ((0 : Int) :: o'.map (fun x => x + 1)) := by
      refine ⟨?_, fun x hx => ?_, ?_⟩
      · rw [List.length_cons, List.length_map, ho'.len]
      · rcases List.mem_cons.1 hx with rfl | hx
        · omega
        · obtain ⟨y, hy, rfl⟩ := List.mem_map.1 hx
          have := ho'.rng y hy
          omega
      · refine List.nodup_cons.2 ⟨fun h => ?_, List.pairwise_map.2 (List.Pairwise.imp (fun h e => h (by omega)) ho'.nd)⟩
        obtain ⟨y, hy, e⟩ := List.mem_map.1 h
        have := ho'.rng y hy
        omega
    have h1 := best_le M hl (l := p :: l) (by rw [List.length_cons]; omega) (o := (0 : Int) :: o'.map (fun x => x + 1)) (by rw [List.length_cons]; exact ho3)
    have e1 : (o'.map (fun x => x + 1)).map (rd_T45 (p :: l)) = o'.map (rd_T45 l) := by
      rw [List.map_map]
      apply List.map_congr_left
      intro x hx
      exact (rd_drop (ho'.rng x hx).1).symm
    have h2 : ln D (p :: l) ⟨0, 0⟩ ((0 : Int) :: o'.map (fun x => x + 1)) = D ⟨0, 0⟩ p + pl D p (o'.map (rd_T45 l)) ⟨0, 0⟩ := by
      unfold ln
      rw [List.map_cons, e1]
      rfl
    have h3 := pl_step M (o'.map (rd_T45 l)) p ⟨0, 0⟩ ⟨0, 0⟩ (mapok M hl' o') hp M.z M.z
    unfold ln at he'
    omega
end
end Go.Proofs.Ythjchjnibbapcaa.ZPathMJ
