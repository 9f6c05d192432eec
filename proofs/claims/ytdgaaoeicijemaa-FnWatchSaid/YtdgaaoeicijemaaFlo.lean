/- Bounded floats: sums, differences, products and conversions of bounded numbers are bounded numbers; what is no NaN; the order of numbers. -/
import Derived.Test.YtdgaaoeicijemaaIeee
import Derived.Test.YtdgaaoeicijemaaFloat
namespace Go.Proofs.Ytdgaaoeicijemaa.Flo
open Ieee Go

section
variable (f : Format)
theorem u_mono {r R : Nat} (h : r ≤ R) : u f r ≤ u f R := by
  have hb := binade_pos f
  unfold u
  split
  · split
    · exact h
    · rename_i h1 h2
      exact Nat.le_trans (Nat.le_of_lt h1) (Nat.le_trans (Nat.le_add_right _ _) (Nat.le_mul_of_pos_right _ (Nat.two_pow_pos _)))
  · rename_i h1
    rw [if_neg (by omega)]
    have hq : r / f.binade ≤ R / f.binade := Nat.div_le_div_right h
    have hr := Nat.mod_lt r hb
    have hR := Nat.mod_lt R hb
    have h1q : 1 ≤ r / f.binade := (Nat.one_le_div_iff hb).2 (by omega)
    rcases Nat.lt_or_ge (r / f.binade) (R / f.binade) with hl | hl
    · have h3 : (f.binade + r % f.binade) * 2 ^ (r / f.binade - 1) ≤ f.binade * 2 ^ (r / f.binade) := by
        obtain ⟨t, ht⟩ : ∃ t, r / f.binade = t + 1 := ⟨r / f.binade - 1, by omega⟩
        rw [ht, Nat.add_sub_cancel, Nat.pow_succ, ← Nat.mul_assoc, Nat.mul_right_comm]
        exact Nat.mul_le_mul_right _ (by omega)
      refine Nat.le_trans h3 (Nat.mul_le_mul (Nat.le_add_right _ _) (Nat.pow_le_pow_right (by omega) (by omega)))
    · have he : r / f.binade = R / f.binade := by omega
      rw [he]
      have h4 := Nat.div_add_mod r f.binade
      have h5 := Nat.div_add_mod R f.binade
      rw [he] at h4
      exact Nat.mul_le_mul_right _ (by omega)
/-- A word is a number whose magnitude, in units of the last place, is at most M. -/
def Bd (M : Nat) (x : Nat) : Prop := ∃ (s : Bool) (m e : Nat), f.read x = .number s m (f.leastPlace + ((e : Nat) : Int)) ∧ m * 2 ^ e ≤ M
/-- A word is no NaN. -/
def NN (x : Nat) : Prop := ∀ s t, f.read x ≠ .nan s t
theorem Bd.nn {M x : Nat} (h : Bd f M x) : NN f x := by
  obtain ⟨s, m, e, hr, _⟩ := h
  intro a b hc
  rw [hr] at hc; cases hc
theorem Bd.mono {M M' x : Nat} (h : Bd f M x) (hm : M ≤ M') : Bd f M' x := by
  obtain ⟨s, m, e, hr, hb⟩ := h
  exact ⟨s, m, e, hr, Nat.le_trans hb hm⟩
theorem rung_bd {x R : Nat} (h : rung f x ≤ R) (hR : R < f.infRung) : Bd f (u f R) x := by
  obtain ⟨m, e, hr, hb⟩ := read_num f (Nat.lt_of_le_of_lt h hR)
  exact ⟨_, m, e, hr, by rw [hb]; exact u_mono f h⟩
theorem rung_nn {x : Nat} (h : rung f x ≤ f.infRung) : NN f x := by
  rcases Nat.lt_or_ge (rung f x) f.infRung with h1 | h1
  · exact (rung_bd f (Nat.le_refl _) h1).nn
  · intro s t hc
    have he : x % f.signWeight = f.infRung := by unfold rung at h h1; omega
    unfold Format.read at hc
    dsimp only at hc
    rw [he] at hc
    split at hc
    · cases hc
    · simp at hc
/-- The rung of a power of two. -/
theorem u_pow {p : Nat} (hp : f.fractionBits ≤ p) : u f ((p - f.fractionBits + 1) * f.binade) = 2 ^ p := by
  have := u_big f (p - f.fractionBits) 0 (binade_pos f)
  simp only [Nat.add_zero] at this
  rw [this]
  unfold Format.binade
  rw [← Nat.pow_add]; congr 1; omega
theorem near_bd (s : Bool) {mag : Nat} {place : Int} {p : Nat} (hp : f.fractionBits ≤ p) (hq : p - f.fractionBits + 1 < 2 ^ f.exponentBits - 1)
    (h : mag * 2 ^ (place - f.leastPlace).toNat ≤ 2 ^ p * 2 ^ (f.leastPlace - place).toNat) : Bd f (2 ^ p) (f.nearest s mag place) := by
  rw [← u_pow f hp] at h ⊢
  refine rung_bd f ?_ ?_
  · rw [(nearest_rung f s mag place).1]
    exact nrung_bound f h
  · exact Nat.mul_lt_mul_of_pos_right hq (binade_pos f)
theorem near_nn (s : Bool) (mag : Nat) (place : Int) : NN f (f.nearest s mag place) := by
  refine rung_nn f ?_
  rw [(nearest_rung f s mag place).1]
  exact nrung_le f mag place
theorem inf_nn (s : Bool) : NN f (f.word s f.infRung) := by
  refine rung_nn f ?_
  rw [(word_rung f f.infRung_lt).1]
  exact Nat.le_refl _
theorem natAbs_signed (s : Bool) (m k : Nat) : (signed s m k).natAbs = m * 2 ^ k := by
  unfold signed
  rw [Nat.shiftLeft_eq]
  split
  · rw [Int.natAbs_neg]; rfl
  · rfl
theorem sum_bd (s t : Bool) {m e n d M N p : Nat} (hx : m * 2 ^ e ≤ M) (hy : n * 2 ^ d ≤ N) (h : M + N ≤ 2 ^ p) (hp : f.fractionBits ≤ p) (hq : p - f.fractionBits + 1 < 2 ^ f.exponentBits - 1) :
    ∃ r, (Datum.sum (.number s m (f.leastPlace + ((e : Nat) : Int))) (.number t n (f.leastPlace + ((d : Nat) : Int)))).map f.write = some r ∧ Bd f (2 ^ p) r := by
  refine ⟨_, rfl, ?_⟩
  refine near_bd f _ hp hq ?_
  have h0 : min (f.leastPlace + (e : Int)) (f.leastPlace + (d : Int)) = f.leastPlace + ((min e d : Nat) : Int) := by omega
  rw [h0]
  rw [show (f.leastPlace + ((min e d : Nat) : Int) - f.leastPlace).toNat = min e d by omega, show (f.leastPlace - (f.leastPlace + ((min e d : Nat) : Int))).toNat = 0 by omega, Nat.pow_zero, Nat.mul_one]
  rw [show (f.leastPlace + (e : Int) - (f.leastPlace + ((min e d : Nat) : Int))).toNat = e - min e d by omega, show (f.leastPlace + (d : Int) - (f.leastPlace + ((min e d : Nat) : Int))).toNat = d - min e d by omega]
  refine Nat.le_trans ?_ h
  refine Nat.le_trans (Nat.mul_le_mul_right _ (Int.natAbs_add_le _ _)) ?_
  rw [natAbs_signed, natAbs_signed, Nat.add_mul, Nat.mul_assoc, Nat.mul_assoc, ← Nat.pow_add, ← Nat.pow_add]
  rw [show e - min e d + min e d = e by omega, show d - min e d + min e d = d by omega]
  exact Nat.add_le_add hx hy
theorem add_bd {x y M N p : Nat} (hx : Bd f M x) (hy : Bd f N y) (h : M + N ≤ 2 ^ p) (hp : f.fractionBits ≤ p) (hq : p - f.fractionBits + 1 < 2 ^ f.exponentBits - 1) : ∃ r, f.add x y = some r ∧ Bd f (2 ^ p) r := by
  obtain ⟨s, m, e, hr, hb⟩ := hx
  obtain ⟨t, n, d, hr', hb'⟩ := hy
  unfold Format.add
  rw [hr, hr']
  exact sum_bd f s t hb hb' h hp hq
theorem sub_bd {x y M N p : Nat} (hx : Bd f M x) (hy : Bd f N y) (h : M + N ≤ 2 ^ p) (hp : f.fractionBits ≤ p) (hq : p - f.fractionBits + 1 < 2 ^ f.exponentBits - 1) : ∃ r, f.sub x y = some r ∧ Bd f (2 ^ p) r := by
  obtain ⟨s, m, e, hr, hb⟩ := hx
  obtain ⟨t, n, d, hr', hb'⟩ := hy
  unfold Format.sub
  rw [hr, hr']
  exact sum_bd f s (!t) hb hb' h hp hq
theorem mul_bd {x y M N p : Nat} (hx : Bd f M x) (hy : Bd f N y) (hL : f.leastPlace ≤ 0) (h : M * N ≤ 2 ^ p * 2 ^ (-f.leastPlace).toNat) (hp : f.fractionBits ≤ p) (hq : p - f.fractionBits + 1 < 2 ^ f.exponentBits - 1) : ∃ r, f.mul x y = some r ∧ Bd f (2 ^ p) r := by
  obtain ⟨s, m, e, hr, hb⟩ := hx
  obtain ⟨t, n, d, hr', hb'⟩ := hy
  unfold Format.mul
  rw [hr, hr']
  refine ⟨_, rfl, near_bd f _ hp hq ?_⟩
  obtain ⟨L, hLe⟩ : ∃ L : Nat, f.leastPlace = -(L : Int) := ⟨(-f.leastPlace).toNat, by omega⟩
  rw [hLe] at h ⊢
  rw [show (- -(L : Int)).toNat = L by omega] at h
  have h1 : m * n * 2 ^ (e + d) ≤ 2 ^ p * 2 ^ L := by
    refine Nat.le_trans ?_ h
    rw [Nat.pow_add, Nat.mul_mul_mul_comm]
    exact Nat.mul_le_mul hb hb'
  rcases Nat.lt_or_ge (e + d) L with hl | hl
  · rw [show (-(L : Int) + (e : Int) + (-(L : Int) + (d : Int)) - -(L : Int)).toNat = 0 by omega, show (-(L : Int) - (-(L : Int) + (e : Int) + (-(L : Int) + (d : Int)))).toNat = L - (e + d) by omega, Nat.pow_zero, Nat.mul_one]
    refine Nat.le_of_mul_le_mul_right (c := 2 ^ (e + d)) ?_ (Nat.two_pow_pos _)
    rw [Nat.mul_assoc (2 ^ p), ← Nat.pow_add, show L - (e + d) + (e + d) = L by omega]
    exact h1
  · rw [show (-(L : Int) + (e : Int) + (-(L : Int) + (d : Int)) - -(L : Int)).toNat = e + d - L by omega, show (-(L : Int) - (-(L : Int) + (e : Int) + (-(L : Int) + (d : Int)))).toNat = 0 by omega, Nat.pow_zero, Nat.mul_one]
    refine Nat.le_of_mul_le_mul_right (c := 2 ^ L) ?_ (Nat.two_pow_pos _)
    rw [Nat.mul_assoc, ← Nat.pow_add, show e + d - L + L = e + d by omega]
    exact h1
/-- A sum of what is no NaN and a number is no NaN. -/
theorem add_nn {x y N : Nat} (hx : NN f x) (hy : Bd f N y) : ∃ r, f.add x y = some r ∧ NN f r := by
  obtain ⟨t, n, d, hr', _⟩ := hy
  unfold Format.add
  rw [hr']
  cases hr : f.read x with
  | nan a b => exact absurd hr (hx a b)
  | infinity s => exact ⟨_, rfl, inf_nn f s⟩
  | number s m i => exact ⟨_, rfl, near_nn f _ _ _⟩
/-- A quotient of what is no NaN by a number that is not 0. -/
theorem div_nn {x y : Nat} (hx : NN f x) {t : Bool} {n : Nat} {j : Int} (hy : f.read y = .number t n j) (hn : n ≠ 0) : ∃ r, f.div x y = some r ∧ NN f r := by
  unfold Format.div
  rw [hy]
  cases hr : f.read x with
  | nan a b => exact absurd hr (hx a b)
  | infinity s => exact ⟨_, rfl, inf_nn f _⟩
  | number s m i =>
    simp only [Datum.quotient, if_neg hn]
    exact ⟨_, rfl, near_nn f _ _ _⟩
/-! ### the order of numbers -/
/-- A number's value, in units of the last place. -/
def sg (s : Bool) (v : Nat) : Int := if s then -(v : Int) else (v : Int)
theorem cmp_mul (a b : Int) (c : Nat) (hc : 0 < c) : compare a b = compare (a * c) (b * c) := by
  show compareOfLessAndEq a b = compareOfLessAndEq (a * c) (b * c)
  have hc' : (0 : Int) < (c : Int) := by omega
  unfold compareOfLessAndEq
  by_cases h1 : a < b
  · rw [if_pos h1, if_pos (Int.mul_lt_mul_of_pos_right h1 hc')]
  · rw [if_neg h1, if_neg (fun h => h1 (Int.lt_of_mul_lt_mul_right h (Int.le_of_lt hc')))]
    by_cases h2 : a = b
    · rw [if_pos h2, if_pos (by rw [h2])]
    · rw [if_neg h2, if_neg (fun h => h2 (Int.eq_of_mul_eq_mul_right (by omega) h))]
theorem order_num {x y : Nat} {s t : Bool} {m e n d : Nat} (hx : f.read x = .number s m (f.leastPlace + ((e : Nat) : Int))) (hy : f.read y = .number t n (f.leastPlace + ((d : Nat) : Int))) :
    f.order x y = some (compare (sg s (m * 2 ^ e)) (sg t (n * 2 ^ d))) := by
  unfold Format.order
  rw [hx, hy]
  show some _ = some _
  congr 1
  have h0 : min (f.leastPlace + (e : Int)) (f.leastPlace + (d : Int)) = f.leastPlace + ((min e d : Nat) : Int) := by omega
  rw [h0]
  rw [show (f.leastPlace + (e : Int) - (f.leastPlace + ((min e d : Nat) : Int))).toNat = e - min e d by omega, show (f.leastPlace + (d : Int) - (f.leastPlace + ((min e d : Nat) : Int))).toNat = d - min e d by omega]
  rw [cmp_mul _ _ (2 ^ min e d) (Nat.two_pow_pos _)]
  have key : ∀ (s : Bool) (m e k : Nat), k ≤ e → signed s m (e - k) * ((2 ^ k : Nat) : Int) = sg s (m * 2 ^ e) := by
    intro s m e k hk
    have h2 : m * 2 ^ (e - k) * 2 ^ k = m * 2 ^ e := by rw [Nat.mul_assoc, ← Nat.pow_add, show e - k + k = e by omega]
    unfold signed sg
    rw [Nat.shiftLeft_eq, ← h2]
    cases s
    · simp
    · simp [Int.neg_mul]
  rw [key s m e _ (by omega), key t n d _ (by omega)]
theorem read_form {x : Nat} {s : Bool} {m : Nat} {i : Int} (h : f.read x = .number s m i) : ∃ e : Nat, i = f.leastPlace + (e : Int) := by
  unfold Format.read at h
  dsimp only at h
  split at h
  · cases h; exact ⟨0, by simp⟩
  · split at h
    · cases h; exact ⟨_, rfl⟩
    · split at h <;> cases h
theorem order_some {x y : Nat} (hx : NN f x) (hy : NN f y) : ∃ c, f.order x y = some c := by
  unfold Format.order
  cases h1 : f.read x with
  | nan a b => exact absurd h1 (hx a b)
  | infinity s => cases h2 : f.read y with
    | nan a b => exact absurd h2 (hy a b)
    | infinity t => exact ⟨_, rfl⟩
    | number t n j => exact ⟨_, rfl⟩
  | number s m i => cases h2 : f.read y with
    | nan a b => exact absurd h2 (hy a b)
    | infinity t => exact ⟨_, rfl⟩
    | number t n j => exact ⟨_, rfl⟩
theorem cmp_not_lt {a b : Int} (h : compare a b = .gt ∨ compare a b = .eq) : b ≤ a := by
  have hd : compare a b = if a < b then Ordering.lt else if a = b then .eq else .gt := rfl
  rw [hd] at h
  rcases Int.lt_or_le a b with h1 | h1
  · rw [if_pos h1] at h; rcases h with h | h <;> cases h
  · exact h1
theorem cmp_not_gt {a b : Int} (h : compare a b = .lt ∨ compare a b = .eq) : a ≤ b := by
  have hd : compare a b = if a < b then Ordering.lt else if a = b then .eq else .gt := rfl
  rw [hd] at h
  rcases Int.lt_or_le a b with h1 | h1
  · exact Int.le_of_lt h1
  · rw [if_neg (by omega)] at h
    by_cases h2 : a = b
    · omega
    · rw [if_neg h2] at h; rcases h with h | h <;> cases h
/-- What lies between two numbers is a number. -/
theorem range_bd {x lo hi M : Nat} {tl th : Bool} {ml el mh eh : Nat} (hlo : f.read lo = .number tl ml (f.leastPlace + (el : Int))) (hhi : f.read hi = .number th mh (f.leastPlace + (eh : Int)))
    (hl : -(M : Int) ≤ sg tl (ml * 2 ^ el)) (hh : sg th (mh * 2 ^ eh) ≤ M)
    (h1 : f.order x lo = some .gt ∨ f.order x lo = some .eq) (h2 : f.order x hi = some .lt ∨ f.order x hi = some .eq) : Bd f M x := by
  cases hr : f.read x with
  | nan a b => exfalso; unfold Format.order at h1; rw [hr] at h1; rcases h1 with h | h <;> cases h
  | infinity s =>
    exfalso
    unfold Format.order at h1 h2
    rw [hr, hlo] at h1
    rw [hr, hhi] at h2
    cases s
    · rcases h2 with h | h <;> cases h
    · rcases h1 with h | h <;> cases h
  | number s m i =>
    obtain ⟨e, rfl⟩ := read_form f hr
    rw [order_num f hr hlo] at h1
    rw [order_num f hr hhi] at h2
    simp only [Option.some.injEq] at h1 h2
    have g1 := cmp_not_lt h1
    have g2 := cmp_not_gt h2
    refine ⟨s, m, e, hr, ?_⟩
    cases s
    · simp only [sg, Bool.false_eq_true, if_false] at g2 hh ⊢
      have : ((m * 2 ^ e : Nat) : Int) ≤ M := Int.le_trans g2 hh
      omega
    · simp only [sg, if_true] at g1
      have : -(M : Int) ≤ -((m * 2 ^ e : Nat) : Int) := Int.le_trans hl g1
      omega
end
/-! ### the two kinds -/
theorem d_least : double.leastPlace = -1074 := by decide
theorem s_least : single.leastPlace = -149 := by decide
theorem gt_not_le {k : FloatKind} {x y : Nat} (hx : NN k.format x) (hy : NN k.format y) : fGt k x y = !fLe k x y := by
  obtain ⟨c, hc⟩ := order_some k.format hx hy
  unfold fGt fLe
  rw [hc]
  cases c <;> rfl
theorem ne_not_eq (k : FloatKind) (x y : Nat) : fNe k x y = !fEq k x y := rfl
theorem ge_or {k : FloatKind} {x y : Nat} (h : fGe k x y = true) : k.format.order x y = some .gt ∨ k.format.order x y = some .eq := by
  unfold fGe at h
  simpa using h
theorem le_or {k : FloatKind} {x y : Nat} (h : fLe k x y = true) : k.format.order x y = some .lt ∨ k.format.order x y = some .eq := by
  unfold fLe at h
  simpa using h
theorem eq_self {k : FloatKind} {x : Nat} (h : NN k.format x) : fEq k x x = true := by
  unfold fEq
  have : k.format.order x x = some .eq := by
    cases hr : k.format.read x with
    | nan a b => exact absurd hr (h a b)
    | infinity s => unfold Format.order; rw [hr]; cases s <;> rfl
    | number s m i =>
      obtain ⟨e, rfl⟩ := read_form _ hr
      rw [order_num _ hr hr]
      have hd : ∀ a : Int, compare a a = Ordering.eq := fun a => by
        show (if a < a then Ordering.lt else if a = a then .eq else .gt) = .eq
        simp
      rw [hd]
  rw [this]; rfl
theorem nn_of_eq {k : FloatKind} {x : Nat} (h : fEq k x x = true) : NN k.format x := by
  intro s t hc
  unfold fEq Format.order at h
  rw [hc] at h
  cases h
theorem nn_left {f : Format} {x y : Nat} {c : Ordering} (h : f.order x y = some c) : NN f x := by
  intro s t hc
  unfold Format.order at h
  rw [hc] at h
  cases h
theorem nan_gt {k : FloatKind} {x y : Nat} (h : ¬ fEq k x x = true) : fGt k x y = false := by
  by_cases hc : fGt k x y = true
  · have : k.format.order x y = some .gt := by unfold fGt at hc; simpa using hc
    exact absurd (eq_self (nn_left this)) h
  · exact Bool.eq_false_iff.2 hc
theorem nan_le {k : FloatKind} {x y : Nat} (h : ¬ fEq k x x = true) : fLe k x y = false := by
  by_cases hc : fLe k x y = true
  · rcases le_or hc with h1 | h1
    · exact absurd (eq_self (nn_left h1)) h
    · exact absurd (eq_self (nn_left h1)) h
  · exact Bool.eq_false_iff.2 hc
/-- One through a zero is an infinity. -/
theorem one_by_zero {x : Nat} (h : fEq .f64 x 0 = true) : ∃ r, floatBits .quo .f64 4607182418800017408 x = some r := by
  have h0 : double.read 0 = .number false 0 (double.leastPlace + ((0 : Nat) : Int)) := by decide
  have h1 : double.read 4607182418800017408 = .number false 4503599627370496 (-52) := by decide
  have ho : double.order x 0 = some .eq := by
    have : (double.order x 0 == some .eq) = true := h
    simpa using this
  show ∃ r, double.div 4607182418800017408 x = some r
  unfold Format.div
  rw [h1]
  cases hr : double.read x with
  | nan a b => unfold Format.order at ho; rw [hr] at ho; cases ho
  | infinity s => exact ⟨_, rfl⟩
  | number s m i =>
    obtain ⟨e, rfl⟩ := read_form _ hr
    by_cases hm : m = 0
    · simp only [Datum.quotient, if_pos hm]
      exact ⟨_, rfl⟩
    · simp only [Datum.quotient, if_neg hm]
      exact ⟨_, rfl⟩
theorem narrow1 {m e p D : Nat} (hb : m * 2 ^ e ≤ 2 ^ (p + D)) (h : e ≤ D) : m ≤ 2 ^ p * 2 ^ (D - e) := by
  refine Nat.le_of_mul_le_mul_right (c := 2 ^ e) ?_ (Nat.two_pow_pos _)
  rw [Nat.mul_assoc, ← Nat.pow_add, Nat.sub_add_cancel h, ← Nat.pow_add]
  exact hb
theorem narrow2 {m e p D : Nat} (hb : m * 2 ^ e ≤ 2 ^ (p + D)) (h : D ≤ e) : m * 2 ^ (e - D) ≤ 2 ^ p := by
  refine Nat.le_of_mul_le_mul_right (c := 2 ^ D) ?_ (Nat.two_pow_pos _)
  rw [Nat.mul_assoc, ← Nat.pow_add, Nat.sub_add_cancel h, ← Nat.pow_add]
  exact hb
theorem widen1 {m e p D q : Nat} (hb : m * 2 ^ e ≤ 2 ^ p) (h : q = p + D) : m * 2 ^ (e + D) ≤ 2 ^ q := by
  rw [h, Nat.pow_add, Nat.pow_add, ← Nat.mul_assoc]
  exact Nat.mul_le_mul_right _ hb
theorem u_top (f : Format) {p r : Nat} (hp : f.fractionBits ≤ p) (h : f.infRung = (p - f.fractionBits + 1) * f.binade) (hr : r ≤ f.infRung) : u f r ≤ 2 ^ p := by
  refine Nat.le_trans (u_mono f hr) ?_
  rw [h]
  exact Nat.le_of_eq (u_pow f hp)
/-- A number of 64 bits, made one of 32. -/
theorem narrow {x p : Nat} (h : Bd double (2 ^ (p + 925)) x) (hp : 23 ≤ p) (hq : p < 276) : ∃ r, floatToFloatBits .f64 x .f32 = some r ∧ Bd single (2 ^ p) r := by
  obtain ⟨s, m, e, hr, hb⟩ := h
  rw [d_least] at hr
  have key : Bd single (2 ^ p) (single.nearest s m (-1074 + (e : Int))) := by
    refine near_bd single s hp (show p - 23 + 1 < 2 ^ 8 - 1 by omega) ?_
    rw [s_least]
    obtain ⟨D, hD⟩ : ∃ D : Nat, D = 925 := ⟨_, rfl⟩
    rw [← hD] at hb
    rcases Nat.lt_or_ge e D with hl | hl
    · rw [show (-1074 + (e : Int) - -149).toNat = 0 by omega, show (-149 - (-1074 + (e : Int))).toNat = D - e by omega, Nat.pow_zero, Nat.mul_one]
      exact narrow1 hb (Nat.le_of_lt hl)
    · rw [show (-1074 + (e : Int) - -149).toNat = e - D by omega, show (-149 - (-1074 + (e : Int))).toNat = 0 by omega, Nat.pow_zero, Nat.mul_one]
      exact narrow2 hb hl
  refine ⟨single.nearest s m (-1074 + (e : Int)), ?_, key⟩
  obtain ⟨s', m', e', hr', _⟩ := key
  unfold floatToFloatBits
  rw [if_neg (by decide)]
  have hd : FloatKind.decode .f64 x = .number s m (-1074 + (e : Int)) := hr
  have he : FloatKind.decode .f32 (FloatKind.encode .f32 (.number s m (-1074 + (e : Int)))) = .number s' m' (single.leastPlace + (e' : Int)) := hr'
  rw [hd]
  dsimp only
  rw [he]
  rfl
/-- What is no NaN of 32 bits, made one of 64. -/
theorem widen {x : Nat} (h : NN single x) : ∃ r, floatToFloatBits .f32 x .f64 = some r := by
  unfold floatToFloatBits
  rw [if_neg (by decide)]
  cases hr : single.read x with
  | nan a b => exact absurd hr (h a b)
  | infinity s =>
    have hd : FloatKind.decode .f32 x = .infinity s := hr
    rw [hd]; exact ⟨_, rfl⟩
  | number s m i =>
    have hd : FloatKind.decode .f32 x = .number s m i := hr
    obtain ⟨e, rfl⟩ := read_form _ hr
    have hlt : rung single x < single.infRung := by
      rcases Nat.lt_or_ge (rung single x) single.infRung with h1 | h1
      · exact h1
      · exfalso
        unfold rung at h1
        unfold Format.read at hr
        dsimp only at hr
        have hb : single.binade ≤ single.infRung := by decide
        rw [if_neg (by omega), if_neg (by omega)] at hr
        split at hr <;> cases hr
    obtain ⟨m', e', hr', hu⟩ := read_num single hlt
    rw [hr] at hr'
    obtain ⟨_, rfl, h3⟩ := Datum.number.inj hr'
    have he : e = e' := by omega
    subst he
    obtain ⟨P, hP⟩ : ∃ P : Nat, P = 277 := ⟨_, rfl⟩
    obtain ⟨Q, hQ⟩ : ∃ Q : Nat, Q = P + 925 := ⟨_, rfl⟩
    have hub : m * 2 ^ e ≤ 2 ^ P := by
      rw [hu]
      exact u_top single (by rw [hP]; decide) (by rw [hP]; decide) (Nat.le_of_lt hlt)
    have key : Bd double (2 ^ Q) (double.nearest s m (single.leastPlace + (e : Int))) := by
      refine near_bd double s (by rw [hQ, hP]; decide) (by rw [hQ, hP]; decide) ?_
      rw [s_least, d_least, show (-149 + (e : Int) - -1074).toNat = e + 925 by omega, show (-1074 - (-149 + (e : Int))).toNat = 0 by omega, Nat.pow_zero, Nat.mul_one]
      exact widen1 hub hQ
    obtain ⟨s', m', e', hk, _⟩ := key
    have he : FloatKind.decode .f64 (FloatKind.encode .f64 (.number s m (single.leastPlace + (e : Int)))) = .number s' m' (double.leastPlace + (e' : Int)) := hk
    rw [hd]
    dsimp only
    rw [he]
    exact ⟨_, rfl⟩
/-! ### bounds that are powers of two, told by their exponents -/
/-- A number whose magnitude, in units of the last place, is at most 2 ^ p. -/
def B (f : Format) (p x : Nat) : Prop := Bd f (2 ^ p) x
theorem B.nn {f : Format} {p x : Nat} (h : B f p x) : NN f x := Bd.nn f h
theorem B.mono {f : Format} {p q x : Nat} (h : B f p x) (hq : p ≤ q) : B f q x := Bd.mono f h (Nat.pow_le_pow_right (by omega) hq)
theorem B.sub {f : Format} {p x y : Nat} (hx : B f p x) (hy : B f p y) (hp : f.fractionBits ≤ p + 1) (hq : p + 1 - f.fractionBits + 1 < 2 ^ f.exponentBits - 1) : ∃ r, f.sub x y = some r ∧ B f (p + 1) r :=
  sub_bd f hx hy (by rw [Nat.pow_succ]; omega) hp hq
theorem B.add {f : Format} {p x y : Nat} (hx : B f p x) (hy : B f p y) (hp : f.fractionBits ≤ p + 1) (hq : p + 1 - f.fractionBits + 1 < 2 ^ f.exponentBits - 1) : ∃ r, f.add x y = some r ∧ B f (p + 1) r :=
  add_bd f hx hy (by rw [Nat.pow_succ]; omega) hp hq
theorem B.mul {f : Format} {p q t x y : Nat} (hx : B f p x) (hy : B f q y) (hL : f.leastPlace ≤ 0) (h : p + q = t + (-f.leastPlace).toNat) (hp : f.fractionBits ≤ t) (hq : t - f.fractionBits + 1 < 2 ^ f.exponentBits - 1) : ∃ r, f.mul x y = some r ∧ B f t r :=
  mul_bd f hx hy hL (by rw [← Nat.pow_add, ← Nat.pow_add, h]; exact Nat.le_refl _) hp hq
theorem B.addNN {f : Format} {p x y : Nat} (hx : NN f x) (hy : B f p y) : ∃ r, f.add x y = some r ∧ NN f r := add_nn f hx hy
theorem B.narrow {p x : Nat} (h : B double (p + 925) x) (hp : 23 ≤ p) (hq : p < 276) : ∃ r, floatToFloatBits .f64 x .f32 = some r ∧ B single p r := Flo.narrow h hp hq
theorem B.range {f : Format} {x lo hi c p : Nat} {tl th : Bool} {ml el mh eh : Nat} (hlo : f.read lo = .number tl ml (f.leastPlace + (el : Int))) (hhi : f.read hi = .number th mh (f.leastPlace + (eh : Int)))
    (h1 : ml ≤ 2 ^ c) (h2 : mh ≤ 2 ^ c) (h3 : c + el ≤ p) (h4 : c + eh ≤ p) (h5 : f.order x lo = some .gt ∨ f.order x lo = some .eq) (h6 : f.order x hi = some .lt ∨ f.order x hi = some .eq) : B f p x := by
  have key : ∀ m e, m ≤ 2 ^ c → c + e ≤ p → m * 2 ^ e ≤ 2 ^ p := fun m e a b => by
    refine Nat.le_trans (Nat.mul_le_mul_right _ a) ?_
    rw [← Nat.pow_add]
    exact Nat.pow_le_pow_right (by omega) b
  have k1 := key ml el h1 h3
  have k2 := key mh eh h2 h4
  refine range_bd f hlo hhi ?_ ?_ h5 h6
  · unfold sg; split <;> omega
  · unfold sg; split <;> omega
/-! ### a number's sign is changed -/
theorem bd_rung {f : Format} {M x : Nat} (hI : f.binade ≤ f.infRung) (h : Bd f M x) : rung f x < f.infRung ∧ u f (rung f x) ≤ M := by
  obtain ⟨s, m, e, hr, hb⟩ := h
  have hlt : rung f x < f.infRung := by
    rcases Nat.lt_or_ge (rung f x) f.infRung with h1 | h1
    · exact h1
    · exfalso
      unfold rung at h1
      unfold Format.read at hr
      dsimp only at hr
      split at hr
      · rename_i h2; omega
      · rw [if_neg (by omega)] at hr
        split at hr <;> cases hr
  obtain ⟨m', e', hr', hu⟩ := read_num f hlt
  rw [hr] at hr'
  obtain ⟨_, rfl, h3⟩ := Datum.number.inj hr'
  have he : e = e' := by omega
  subst he
  exact ⟨hlt, by rw [← hu]; exact hb⟩
theorem bd_of_rung {f : Format} {M x : Nat} (h1 : rung f x < f.infRung) (h2 : u f (rung f x) ≤ M) : Bd f M x := by
  obtain ⟨m, e, hr, hb⟩ := read_num f h1
  exact ⟨_, m, e, hr, by rw [hb]; exact h2⟩
theorem neg_rung (x : Nat) : rung double (Op.negFloat .f64 x) = rung double x := by
  show (x ^^^ 2 ^ 63) % 2 ^ 63 = x % 2 ^ 63
  rw [Nat.xor_mod_two_pow, Nat.mod_self, Nat.xor_zero]
theorem B.neg {p x : Nat} (h : B double p x) : B double p (Op.negFloat .f64 x) := by
  obtain ⟨h1, h2⟩ := bd_rung (by decide) h
  exact bd_of_rung (by rw [neg_rung]; exact h1) (by rw [neg_rung]; exact h2)
/-- A number's value, in units of the last place. -/
def val (f : Format) (x : Nat) : Int := sg (x / f.signWeight % 2 == 1) (u f (rung f x))
theorem order_val {p q x y : Nat} (hx : B double p x) (hy : B double q y) : double.order x y = some (compare (val double x) (val double y)) := by
  obtain ⟨h1, _⟩ := bd_rung (by decide) hx
  obtain ⟨h2, _⟩ := bd_rung (by decide) hy
  obtain ⟨m, e, hr, hu⟩ := read_num double h1
  obtain ⟨n, d, hr', hu'⟩ := read_num double h2
  rw [order_num double hr hr', hu, hu']
  rfl
end Go.Proofs.Ytdgaaoeicijemaa.Flo
