/- Sums of numbers that are not below nothing; the order of numbers by their values. -/
import Derived.Test.YtdgaaoeicijemaaFlor
namespace Go.Proofs.Ytdgaaoeicijemaa.Flo
open Ieee Go

theorem order_valG {f : Format} (hI : f.binade ≤ f.infRung) {p q x y : Nat} (hx : B f p x) (hy : B f q y) : f.order x y = some (compare (val f x) (val f y)) := by
  obtain ⟨h1, _⟩ := bd_rung hI hx
  obtain ⟨h2, _⟩ := bd_rung hI hy
  obtain ⟨m, e, hr, hu⟩ := read_num f h1
  obtain ⟨n, d, hr', hu'⟩ := read_num f h2
  rw [order_num f hr hr', hu, hu']
  rfl
theorem cmp_def (a b : Int) : compare a b = if a < b then Ordering.lt else if a = b then .eq else .gt := rfl
section
variable {k : FloatKind} (hI : k.format.binade ≤ k.format.infRung) {p q x y : Nat} (hx : B k.format p x) (hy : B k.format q y)
include hI hx hy
theorem lt_val : fLt k x y = decide (val k.format x < val k.format y) := by
  have h := order_valG hI hx hy
  unfold fLt
  rw [h, cmp_def]
  by_cases h1 : val k.format x < val k.format y
  · rw [if_pos h1, decide_eq_true h1]; rfl
  · rw [if_neg h1, decide_eq_false h1]; split <;> rfl
theorem gt_val : fGt k x y = decide (val k.format y < val k.format x) := by
  have h := order_valG hI hx hy
  unfold fGt
  rw [h, cmp_def]
  by_cases h1 : val k.format x < val k.format y
  · rw [if_pos h1, decide_eq_false (by omega)]; rfl
  · rw [if_neg h1]
    by_cases h2 : val k.format x = val k.format y
    · rw [if_pos h2, decide_eq_false (by omega)]; rfl
    · rw [if_neg h2, decide_eq_true (by omega)]; rfl
theorem eq_val : fEq k x y = decide (val k.format x = val k.format y) := by
  have h := order_valG hI hx hy
  unfold fEq
  rw [h, cmp_def]
  by_cases h1 : val k.format x < val k.format y
  · rw [if_pos h1, decide_eq_false (by omega)]; rfl
  · rw [if_neg h1]
    by_cases h2 : val k.format x = val k.format y
    · rw [if_pos h2, decide_eq_true h2]; rfl
    · rw [if_neg h2, decide_eq_false h2]; rfl
theorem le_val : fLe k x y = decide (val k.format x ≤ val k.format y) := by
  have h := order_valG hI hx hy
  unfold fLe
  rw [h, cmp_def]
  by_cases h1 : val k.format x < val k.format y
  · rw [if_pos h1, decide_eq_true (by omega)]; rfl
  · rw [if_neg h1]
    by_cases h2 : val k.format x = val k.format y
    · rw [if_pos h2, decide_eq_true (by omega)]; rfl
    · rw [if_neg h2, decide_eq_false (by omega)]; rfl
end
theorem signed_sg (s : Bool) (m j : Nat) : signed s m j = sg s (m * 2 ^ j) := by
  unfold signed sg
  rw [Nat.shiftLeft_eq]
theorem sg_nn {s : Bool} {m e : Nat} (j : Nat) (h : 0 ≤ sg s (m * 2 ^ e)) : 0 ≤ sg s (m * 2 ^ j) := by
  unfold sg at h ⊢
  cases s
  · rw [if_neg (by decide)]; exact Int.natCast_nonneg _
  · rw [if_pos rfl] at h ⊢
    have h0 : m * 2 ^ e = 0 := by omega
    rcases Nat.mul_eq_zero.1 h0 with h1 | h1
    · rw [h1, Nat.zero_mul]; simp
    · have := Nat.two_pow_pos e; omega
theorem sg_pos {s : Bool} {m e : Nat} (j : Nat) (h : 0 < sg s (m * 2 ^ e)) : 0 < sg s (m * 2 ^ j) := by
  unfold sg at h ⊢
  cases s
  · rw [if_neg (by decide)] at h ⊢
    have h0 : m ≠ 0 := by
      intro h1; rw [h1, Nat.zero_mul] at h; simp at h
    have := Nat.mul_pos (Nat.pos_of_ne_zero h0) (Nat.two_pow_pos j)
    omega
  · rw [if_pos rfl] at h; omega
/-- A sum of what is not below nothing. -/
theorem add_val {f : Format} (hI : f.binade ≤ f.infRung) {p q t x y r : Nat} (hx : B f p x) (hy : B f q y) (hr : f.add x y = some r) (hb : B f t r) (gx : 0 ≤ val f x) (gy : 0 ≤ val f y) :
    0 ≤ val f r ∧ (0 < val f x → 0 < val f r) ∧ (0 < val f y → 0 < val f r) := by
  obtain ⟨h1, _⟩ := bd_rung hI hx
  obtain ⟨h2, _⟩ := bd_rung hI hy
  obtain ⟨h3, _⟩ := bd_rung hI hb
  obtain ⟨m, e, e1, hu⟩ := read_num f h1
  obtain ⟨n, d, e2, hu'⟩ := read_num f h2
  have vx : val f x = sg (x / f.signWeight % 2 == 1) (m * 2 ^ e) := by unfold val; rw [hu]
  have vy : val f y = sg (y / f.signWeight % 2 == 1) (n * 2 ^ d) := by unfold val; rw [hu']
  rw [vx] at gx ⊢
  rw [vy] at gy ⊢
  unfold Format.add at hr
  rw [e1, e2] at hr
  simp only [Datum.sum, Option.map_some, Option.some.injEq] at hr
  rw [signed_sg, signed_sg] at hr
  generalize hj : (f.leastPlace + (e : Int) - min (f.leastPlace + (e : Int)) (f.leastPlace + (d : Int))).toNat = j at hr
  generalize hj' : (f.leastPlace + (d : Int) - min (f.leastPlace + (e : Int)) (f.leastPlace + (d : Int))).toNat = j' at hr
  have n1 := sg_nn j gx
  have n2 := sg_nn j' gy
  have q1 : 0 < sg (x / f.signWeight % 2 == 1) (m * 2 ^ e) → 0 < sg (x / f.signWeight % 2 == 1) (m * 2 ^ j) := sg_pos j
  have q2 : 0 < sg (y / f.signWeight % 2 == 1) (n * 2 ^ d) → 0 < sg (y / f.signWeight % 2 == 1) (n * 2 ^ j') := sg_pos j'
  generalize sg (x / f.signWeight % 2 == 1) (m * 2 ^ j) = a at hr n1 q1
  generalize sg (y / f.signWeight % 2 == 1) (n * 2 ^ j') = b at hr n2 q2
  generalize hbase : min (f.leastPlace + (e : Int)) (f.leastPlace + (d : Int)) = base at hr
  have key : (0 < a + b → 0 < val f r) ∧ (a + b = 0 → val f r = 0) := by
    refine ⟨fun hT => ?_, fun hT => ?_⟩
    · rw [if_neg (by omega), decide_eq_false (by omega)] at hr
      have hr' : f.nearest false (a + b).natAbs base = r := hr
      have hs : (r / f.signWeight % 2 == 1) = false := by rw [← hr']; exact (nearest_rung f false _ base).2
      have hg := near_ge f false (mag := (a + b).natAbs) (place := base) (p := 0) (by
        have hp : (f.leastPlace - base).toNat = 0 := by omega
        rw [hp, Nat.pow_zero, Nat.mul_one]
        exact Nat.mul_pos (by omega) (Nat.two_pow_pos _))
      rw [hr'] at hg
      have hpos : 1 ≤ u f (rung f r) := by
        rcases hg with h | h
        · omega
        · simpa using h
      unfold val
      rw [hs]
      unfold sg
      rw [if_neg (by decide)]
      omega
    · rw [hT] at hr
      have hr' : f.nearest _ 0 base = r := hr
      have hz : rung f r = 0 := by
        rw [← hr', (nearest_rung f _ 0 base).1]; unfold nrung; rw [if_pos rfl]
      have hu0 : u f 0 = 0 := by
        rw [u_small f (by have := binade_pos f; omega)]
      unfold val
      rw [hz, hu0]
      unfold sg; split <;> rfl
  refine ⟨?_, fun h => key.1 (by have := q1 h; omega), fun h => key.1 (by have := q2 h; omega)⟩
  rcases Int.lt_or_le 0 (a + b) with h | h
  · exact Int.le_of_lt (key.1 h)
  · rw [key.2 (by omega)]; exact Int.le_refl _
theorem val_zero (f : Format) : val f 0 = 0 := by
  unfold val rung
  rw [Nat.zero_mod, u_small f (by have := binade_pos f; omega)]
  unfold sg; split <;> rfl
theorem b_zeroG {f : Format} (p : Nat) (h : f.read 0 = .number false 0 (f.leastPlace + ((0 : Nat) : Int))) : B f p 0 := by
  refine ⟨false, 0, 0, h, ?_⟩
  rw [Nat.zero_mul]; exact Nat.zero_le _
end Go.Proofs.Ytdgaaoeicijemaa.Flo
