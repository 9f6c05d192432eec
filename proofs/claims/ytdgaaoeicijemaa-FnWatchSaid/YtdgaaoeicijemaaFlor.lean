/- Bounds from below; quotients by sums of squares. -/
import Derived.Test.YtdgaaoeicijemaaFlo
namespace Go.Proofs.Ytdgaaoeicijemaa.Flo
open Ieee Go

/-! ### bounds from below; quotients -/
theorem le_u (f : Format) (r : Nat) : r ≤ u f r := by
  have hb := binade_pos f
  unfold u
  split
  · exact Nat.le_refl _
  · rename_i h
    have h1 : 1 ≤ r / f.binade := (Nat.one_le_div_iff hb).2 (by omega)
    obtain ⟨t, ht⟩ : ∃ t, r / f.binade = t + 1 := ⟨r / f.binade - 1, by omega⟩
    have h2 := Nat.div_add_mod r f.binade
    rw [ht, Nat.add_sub_cancel]
    rw [ht] at h2
    have h3 : t + 1 ≤ 2 ^ t := Nat.lt_two_pow_self
    have h4 : f.binade * (t + 1) ≤ f.binade * 2 ^ t := Nat.mul_le_mul_left _ h3
    have h5 : r % f.binade ≤ r % f.binade * 2 ^ t := Nat.le_mul_of_pos_right _ (Nat.two_pow_pos _)
    rw [Nat.add_mul]
    omega
/-- What is no less than a power of two becomes no less, or infinite. -/
theorem near_ge (f : Format) (s : Bool) {mag : Nat} {place : Int} {p : Nat} (h : 2 ^ p * 2 ^ (f.leastPlace - place).toNat ≤ mag * 2 ^ (place - f.leastPlace).toNat) :
    f.infRung ≤ rung f (f.nearest s mag place) ∨ 2 ^ p ≤ u f (rung f (f.nearest s mag place)) := by
  have hb := binade_pos f
  rw [(nearest_rung f s mag place).1]
  have hm : mag ≠ 0 := by
    intro h0
    rw [h0, Nat.zero_mul] at h
    have := Nat.mul_pos (Nat.two_pow_pos p) (Nat.two_pow_pos (f.leastPlace - place).toNat)
    omega
  unfold nrung
  rw [if_neg hm]
  dsimp only
  have hlog : mag < 2 ^ (mag.log2 + 1) := Nat.lt_log2_self
  have hlog2 : 2 ^ mag.log2 ≤ mag := Nat.log2_self_le hm
  by_cases hl : place + mag.log2 - f.fractionBits ≤ f.leastPlace
  · rw [Int.max_eq_right hl, Int.sub_self, Int.toNat_zero, Nat.zero_mul, Nat.zero_add, Nat.shiftLeft_eq]
    have hc := le_cut (neg := false) h
    rcases Nat.le_total f.infRung (Toward.even.cut false (mag * 2 ^ (place - f.leastPlace).toNat) (f.leastPlace - place).toNat) with h1 | h1
    · exact .inl (by rw [Nat.min_eq_right h1]; exact Nat.le_refl _)
    · exact .inr (by rw [Nat.min_eq_left h1]; exact Nat.le_trans hc (le_u f _))
  · rw [Int.max_eq_left (by omega)]
    generalize hq : (place + (mag.log2 : Int) - f.fractionBits - f.leastPlace).toNat = q
    have hx : mag <<< (place - (place + (mag.log2 : Int) - f.fractionBits)).toNat = mag * 2 ^ (f.fractionBits - mag.log2) := by
      rw [Nat.shiftLeft_eq]
      congr 2
      omega
    have hd : (place + (mag.log2 : Int) - f.fractionBits - place).toNat = mag.log2 - f.fractionBits := by omega
    rw [hx, hd]
    have hB : f.binade = 2 ^ f.fractionBits := rfl
    have hk : f.binade ≤ Toward.even.cut false (mag * 2 ^ (f.fractionBits - mag.log2)) (mag.log2 - f.fractionBits) := by
      refine le_cut ?_
      rw [hB, ← Nat.pow_add]
      refine Nat.le_trans ?_ (Nat.mul_le_mul_right _ hlog2)
      rw [← Nat.pow_add]
      exact Nat.pow_le_pow_right (by omega) (by omega)
    have hp : p ≤ f.fractionBits + q := by
      have h1 := Nat.lt_of_le_of_lt h (Nat.mul_lt_mul_of_pos_right hlog (Nat.two_pow_pos (place - f.leastPlace).toNat))
      rw [← Nat.pow_add, ← Nat.pow_add] at h1
      have h3 := (Nat.pow_lt_pow_iff_right (show 1 < 2 by omega)).1 h1
      omega
    have hr : (q + 1) * f.binade ≤ q * f.binade + Toward.even.cut false (mag * 2 ^ (f.fractionBits - mag.log2)) (mag.log2 - f.fractionBits) := by
      rw [Nat.succ_mul]; omega
    rcases Nat.le_total f.infRung (q * f.binade + Toward.even.cut false (mag * 2 ^ (f.fractionBits - mag.log2)) (mag.log2 - f.fractionBits)) with h1 | h1
    · exact .inl (by rw [Nat.min_eq_right h1]; exact Nat.le_refl _)
    · refine .inr ?_
      rw [Nat.min_eq_left h1]
      refine Nat.le_trans ?_ (u_mono f hr)
      have := u_big f q 0 hb
      simp only [Nat.add_zero] at this
      rw [this, hB, ← Nat.pow_add]
      exact Nat.pow_le_pow_right (by omega) hp
/-- A word's magnitude, and its sign. -/
def mg (x : Nat) : Nat := u double (rung double x)
def sn (x : Nat) : Bool := x / double.signWeight % 2 == 1
theorem B.num {p x : Nat} (h : B double p x) : ∃ m e : Nat, double.read x = .number (sn x) m (double.leastPlace + (e : Int)) ∧ m * 2 ^ e = mg x := read_num double (bd_rung (by decide) h).1
theorem B.fin {p x : Nat} (h : B double p x) : rung double x < double.infRung := (bd_rung (by decide) h).1
theorem mg_neg (x : Nat) : mg (Op.negFloat .f64 x) = mg x := by unfold mg; rw [neg_rung]
/-- A square. -/
theorem B.sq {x : Nat} (h : B double 1094 x) : ∃ a, double.mul x x = some a ∧ B double 1114 a ∧ sn a = false ∧ ∀ k j, 2 ^ k ≤ mg x → j + 1074 = 2 * k → 2 ^ j ≤ mg a := by
  obtain ⟨m, e, hr, hu⟩ := B.num h
  obtain ⟨a, ha, hb⟩ := B.mul (t := 1114) h h (by decide) (by decide) (by decide) (by decide)
  refine ⟨a, ha, hb, ?_, ?_⟩
  · unfold Format.mul at ha
    rw [hr] at ha
    simp only [Datum.product, Bool.xor_self, Option.map_some, Option.some.injEq] at ha
    rw [← ha]
    exact (nearest_rung double false _ _).2
  · intro k j hk hj
    unfold Format.mul at ha
    rw [hr] at ha
    simp only [Datum.product, Bool.xor_self, Option.map_some, Option.some.injEq] at ha
    have hn : double.nearest false (m * m) (double.leastPlace + (e : Int) + (double.leastPlace + (e : Int))) = a := ha
    have hsq : 2 ^ (2 * k) ≤ m * m * 2 ^ (2 * e) := by
      rw [← hu] at hk
      have := Nat.mul_le_mul hk hk
      rw [← Nat.pow_add, ← Nat.two_mul, Nat.mul_mul_mul_comm, ← Nat.pow_add, ← Nat.two_mul] at this
      exact this
    obtain ⟨D, hD⟩ : ∃ D : Nat, D = 1074 := ⟨_, rfl⟩
    have key := near_ge double false (mag := m * m) (place := double.leastPlace + (e : Int) + (double.leastPlace + (e : Int))) (p := j) (by
      rw [d_least]
      rw [← hD] at hj
      rcases Nat.lt_or_ge (2 * e) D with hl | hl
      · rw [show (-1074 - (-1074 + (e : Int) + (-1074 + (e : Int)))).toNat = D - 2 * e by omega, show (-1074 + (e : Int) + (-1074 + (e : Int)) - -1074).toNat = 0 by omega, Nat.pow_zero, Nat.mul_one]
        refine Nat.le_of_mul_le_mul_right (c := 2 ^ (2 * e)) ?_ (Nat.two_pow_pos _)
        rw [Nat.mul_assoc, ← Nat.pow_add, Nat.sub_add_cancel (Nat.le_of_lt hl), ← Nat.pow_add, hj]
        exact hsq
      · rw [show (-1074 - (-1074 + (e : Int) + (-1074 + (e : Int)))).toNat = 0 by omega, show (-1074 + (e : Int) + (-1074 + (e : Int)) - -1074).toNat = 2 * e - D by omega, Nat.pow_zero, Nat.mul_one]
        refine Nat.le_of_mul_le_mul_right (c := 2 ^ D) ?_ (Nat.two_pow_pos _)
        rw [Nat.mul_assoc, ← Nat.pow_add 2 (2 * e - D) D, Nat.sub_add_cancel hl, ← Nat.pow_add, hj]
        exact hsq)
    rw [hn] at key
    have hf := B.fin hb
    rcases key with h1 | h1
    · omega
    · exact h1
/-- A sum of two numbers that aren't below 0. -/
theorem B.addPos {p a b : Nat} (ha : B double p a) (hb : B double p b) (sa : sn a = false) (sb : sn b = false) (hp : double.fractionBits ≤ p + 1) (hq : p + 1 - double.fractionBits + 1 < 2 ^ double.exponentBits - 1) :
    ∃ c, double.add a b = some c ∧ B double (p + 1) c ∧ ∀ j, 2 ^ j ≤ mg a ∨ 2 ^ j ≤ mg b → 2 ^ j ≤ mg c := by
  obtain ⟨c, hc, hB⟩ := B.add ha hb hp hq
  refine ⟨c, hc, hB, fun j hj => ?_⟩
  obtain ⟨m, e, hr, hu⟩ := B.num ha
  obtain ⟨n, d, hr', hu'⟩ := B.num hb
  rw [sa] at hr
  rw [sb] at hr'
  unfold Format.add at hc
  rw [hr, hr'] at hc
  have h0 : min (double.leastPlace + (e : Int)) (double.leastPlace + (d : Int)) = double.leastPlace + ((min e d : Nat) : Int) := by omega
  simp only [Datum.sum, Option.map_some, Option.some.injEq] at hc
  rw [h0, show (double.leastPlace + (e : Int) - (double.leastPlace + ((min e d : Nat) : Int))).toNat = e - min e d by omega, show (double.leastPlace + (d : Int) - (double.leastPlace + ((min e d : Nat) : Int))).toNat = d - min e d by omega] at hc
  have htot : (signed false m (e - min e d) + signed false n (d - min e d)).natAbs = m * 2 ^ (e - min e d) + n * 2 ^ (d - min e d) := by
    unfold signed
    rw [Nat.shiftLeft_eq, Nat.shiftLeft_eq]
    simp only [Bool.false_eq_true, if_false]
    omega
  rw [htot] at hc
  have hn : ∃ s, double.nearest s (m * 2 ^ (e - min e d) + n * 2 ^ (d - min e d)) (double.leastPlace + ((min e d : Nat) : Int)) = c := ⟨_, hc⟩
  obtain ⟨s, hn⟩ := hn
  have key := near_ge double s (mag := m * 2 ^ (e - min e d) + n * 2 ^ (d - min e d)) (place := double.leastPlace + ((min e d : Nat) : Int)) (p := j) (by
    rw [show (double.leastPlace - (double.leastPlace + ((min e d : Nat) : Int))).toNat = 0 by omega, show (double.leastPlace + ((min e d : Nat) : Int) - double.leastPlace).toNat = min e d by omega, Nat.pow_zero, Nat.mul_one]
    rw [Nat.add_mul, Nat.mul_assoc, Nat.mul_assoc, ← Nat.pow_add, ← Nat.pow_add, show e - min e d + min e d = e by omega, show d - min e d + min e d = d by omega, hu, hu']
    rcases hj with h | h
    · exact Nat.le_trans h (Nat.le_add_right _ _)
    · exact Nat.le_trans h (Nat.le_add_left _ _))
  rw [hn] at key
  have hf := B.fin hB
  rcases key with h1 | h1
  · omega
  · exact h1
/-- A quotient. -/
theorem B.div {p q x y : Nat} (hx : B double p x) (hy : B double p y) (h0 : mg y ≠ 0) (h : mg x ≤ 2 ^ q * mg y) (hq : q < 900) : ∃ r, double.div x y = some r ∧ B double (q + 1074) r := by
  obtain ⟨m, e, hr, hu⟩ := B.num hx
  obtain ⟨n, d, hr', hu'⟩ := B.num hy
  have hn : n ≠ 0 := by
    intro hn
    rw [hn, Nat.zero_mul] at hu'
    exact h0 hu'.symm
  unfold Format.div
  rw [hr, hr']
  simp only [Datum.quotient, if_neg hn]
  refine ⟨_, rfl, near_bd double _ (show 52 ≤ q + 1074 by omega) (show q + 1074 - 52 + 1 < 2 ^ 11 - 1 by omega) ?_⟩
  obtain ⟨more, hm⟩ : ∃ more : Nat, double.fractionBits + 2 + n.log2 - m.log2 = more := ⟨_, rfl⟩
  rw [hm, Nat.shiftLeft_eq]
  rcases Nat.eq_zero_or_pos m with hm0 | hm0
  · rw [hm0]; simp
  · have hmn : n ≤ m * 2 ^ more := by
      have h1 : n < 2 ^ (n.log2 + 1) := Nat.lt_log2_self
      have h2 : 2 ^ m.log2 ≤ m := Nat.log2_self_le (by omega)
      refine Nat.le_trans (Nat.le_of_lt h1) (Nat.le_trans ?_ (Nat.mul_le_mul_right _ h2))
      rw [← Nat.pow_add]
      refine Nat.pow_le_pow_right (by omega) ?_
      have : double.fractionBits = 52 := rfl
      omega
    have hXV : m * 2 ^ more * 2 ^ e ≤ 2 ^ (q + d + more) * n := by
      rw [← hu, ← hu'] at h
      have := Nat.mul_le_mul_right (2 ^ more) h
      rw [Nat.pow_add, Nat.pow_add]
      calc m * 2 ^ more * 2 ^ e = m * 2 ^ e * 2 ^ more := by rw [Nat.mul_right_comm]
        _ ≤ 2 ^ q * (n * 2 ^ d) * 2 ^ more := this
        _ = 2 ^ q * 2 ^ d * 2 ^ more * n := by simp only [Nat.mul_assoc, Nat.mul_comm, Nat.mul_left_comm]
    have heA : e ≤ q + d + more := by
      have h1 : n * 2 ^ e ≤ 2 ^ (q + d + more) * n := Nat.le_trans (Nat.mul_le_mul_right _ hmn) hXV
      rw [Nat.mul_comm n] at h1
      have h2 := Nat.le_of_mul_le_mul_right h1 (by omega)
      exact (Nat.pow_le_pow_iff_right (show 1 < 2 by omega)).1 h2
    obtain ⟨E, hE⟩ : ∃ E, q + d + more = E + e := ⟨q + d + more - e, by omega⟩
    have hD : m * 2 ^ more ≤ 2 ^ E * n := by
      rw [hE, Nat.pow_add] at hXV
      refine Nat.le_of_mul_le_mul_right (c := 2 ^ e) ?_ (Nat.two_pow_pos _)
      calc m * 2 ^ more * 2 ^ e ≤ 2 ^ E * 2 ^ e * n := hXV
        _ = 2 ^ E * n * 2 ^ e := by rw [Nat.mul_right_comm]
    have hZ : 2 * (m * 2 ^ more / n) + (m * 2 ^ more % n != 0).toNat ≤ 2 ^ (E + 1) := by
      generalize m * 2 ^ more = D at hD
      have h1 := Nat.div_add_mod D n
      have h2 : D / n ≤ 2 ^ E := Nat.div_le_of_le_mul (by rw [Nat.mul_comm]; exact hD)
      rw [Nat.pow_succ]
      rcases Nat.lt_or_ge (D / n) (2 ^ E) with h3 | h3
      · have h4 : (D % n != 0).toNat ≤ 1 := by cases (D % n != 0) <;> decide
        omega
      · have h5 : D / n = 2 ^ E := by omega
        rw [h5, Nat.mul_comm] at h1
        have h6 : D % n = 0 := by omega
        rw [h5, h6]
        simp
        omega
    have hw : ((m * 2 ^ more % n != 0)).toNat = (m * 2 ^ more % n != 0).toNat := rfl
    refine Nat.le_trans (Nat.mul_le_mul_right _ hZ) ?_
    rw [d_least, ← Nat.pow_add, ← Nat.pow_add]
    refine Nat.pow_le_pow_right (by omega) ?_
    omega
theorem not_zero {p c : Nat} (h : B double p c) (h0 : ¬ fEq .f64 c 0 = true) : mg c ≠ 0 := by
  intro hz
  refine h0 ?_
  obtain ⟨m, e, hr, hu⟩ := B.num h
  have hr0 : double.read 0 = .number false 0 (double.leastPlace + ((0 : Nat) : Int)) := by decide
  have ho := order_num double hr hr0
  rw [hu, hz] at ho
  have e1 : fEq .f64 c 0 = (double.order c 0 == some .eq) := rfl
  rw [e1, ho]
  cases sn c <;> rfl
/-- A part through a sum of squares. -/
theorem part_div {x y c : Nat} (hc : B double 1115 c) (h0 : mg c ≠ 0) (hy : mg y = mg x) (hB : B double 1094 y) (h : ∀ k j, 2 ^ k ≤ mg x → j + 1074 = 2 * k → 2 ^ j ≤ mg c) : ∃ r, double.div y c = some r ∧ B double 1674 r := by
  obtain ⟨q, hq⟩ : ∃ q : Nat, q = 600 := ⟨_, rfl⟩
  have key : mg y ≤ 2 ^ q * mg c := by
    rw [hy]
    have hc1 : 1 ≤ mg c := by omega
    rcases Nat.lt_or_ge (mg x) (2 ^ q) with h1 | h1
    · exact Nat.le_trans (Nat.le_of_lt h1) (Nat.le_mul_of_pos_right _ hc1)
    · have hx0 : mg x ≠ 0 := by have := Nat.two_pow_pos q; omega
      have hk := Nat.log2_self_le hx0
      have hk2 : mg x < 2 ^ ((mg x).log2 + 1) := Nat.lt_log2_self
      have hq2 : q < (mg x).log2 + 1 := (Nat.pow_lt_pow_iff_right (show 1 < 2 by omega)).1 (Nat.lt_of_le_of_lt h1 hk2)
      have h3 := h (mg x).log2 (2 * (mg x).log2 - 1074) hk (by omega)
      refine Nat.le_trans (Nat.le_of_lt hk2) (Nat.le_trans ?_ (Nat.mul_le_mul_left _ h3))
      rw [← Nat.pow_add]
      exact Nat.pow_le_pow_right (by omega) (by omega)
  obtain ⟨r, hr, hb⟩ := B.div (p := 1115) (B.mono hB (by omega)) hc h0 key (by omega)
  exact ⟨r, hr, by rw [hq] at hb; exact hb⟩
end Go.Proofs.Ytdgaaoeicijemaa.Flo
