/- Floats that are nothing, floats that are not below nothing; what a number makes with itself. -/
import Derived.Test.YtdgaaoeicijemaaFlip
namespace Go.Proofs.Ytdgaaoeicijemaa.Flo
open Ieee Go

/-- A zero. -/
def Z (x : Nat) : Prop := ∃ (s : Bool) (i : Int), double.read x = .number s 0 i
/-- A number that is not below nothing. -/
def Po (x : Nat) : Prop := ∃ (s : Bool) (m : Nat) (i : Int), double.read x = .number s m i ∧ (s = false ∨ m = 0)
theorem z_zero : Z 0 := ⟨false, double.leastPlace, by decide⟩
theorem po_zero : Po 0 := ⟨false, 0, double.leastPlace, by decide, .inl rfl⟩
theorem near_num {s : Bool} {T : Nat} {b : Int} (hf : rung double (double.nearest s T b) < double.infRung) : ∃ m i, double.read (double.nearest s T b) = .number s m i := by
  obtain ⟨m, e, hr, _⟩ := read_num double hf
  rw [(nearest_rung double s T b).2] at hr
  exact ⟨m, _, hr⟩
theorem near_z (s : Bool) (b : Int) : Z (double.nearest s 0 b) := by
  have hz : rung double (double.nearest s 0 b) = 0 := by rw [(nearest_rung double s 0 b).1]; unfold nrung; rw [if_pos rfl]
  obtain ⟨m, e, hr, hu⟩ := read_num double (x := double.nearest s 0 b) (by rw [hz]; decide)
  rw [hz, show u double 0 = 0 by decide] at hu
  rcases Nat.mul_eq_zero.1 hu with h1 | h1
  · rw [h1] at hr; exact ⟨_, _, hr⟩
  · have := Nat.two_pow_pos e; omega
theorem signed_zero (s : Bool) (k : Nat) : signed s 0 k = 0 := by
  unfold signed
  rw [Nat.shiftLeft_eq, Nat.zero_mul]
  cases s <;> rfl
theorem z_add {x y r : Nat} (hx : Z x) (hy : Z y) (hr : double.add x y = some r) : Z r := by
  obtain ⟨s, i, h1⟩ := hx
  obtain ⟨t, j, h2⟩ := hy
  unfold Format.add at hr
  rw [h1, h2] at hr
  simp only [Datum.sum, Option.map_some, Option.some.injEq] at hr
  rw [signed_zero, signed_zero] at hr
  rw [← hr]
  exact near_z _ _
theorem flip_sum {x y r : Nat} (h : Flip x y) (hr : double.add x y = some r) : Z r := by
  obtain ⟨s, s', m, i, h1, h2, h3⟩ := h
  unfold Format.add at hr
  rw [h1, h2] at hr
  simp only [Datum.sum, Option.map_some, Option.some.injEq] at hr
  rw [signed_flip h3, Int.add_right_neg] at hr
  rw [← hr]
  exact near_z _ _
theorem signed_po {s : Bool} {m : Nat} (k : Nat) (h : s = false ∨ m = 0) : 0 ≤ signed s m k := by
  rcases h with h | h
  · rw [h]; unfold signed; rw [Nat.shiftLeft_eq, if_neg (by decide)]; exact Int.natCast_nonneg _
  · rw [h, signed_zero]; exact Int.le_refl _
theorem po_sum {T : Int} {c : Bool} {b : Int} (hT : 0 ≤ T) (hf : rung double (double.nearest (if T = 0 then c else decide (T < 0)) T.natAbs b) < double.infRung) :
    Po (double.nearest (if T = 0 then c else decide (T < 0)) T.natAbs b) := by
  by_cases h0 : T = 0
  · subst h0
    obtain ⟨s, i, h⟩ := near_z (if (0 : Int) = 0 then c else decide ((0 : Int) < 0)) b
    exact ⟨s, 0, i, h, .inr rfl⟩
  · rw [if_neg h0, decide_eq_false (by omega)] at hf ⊢
    obtain ⟨m, i, h⟩ := near_num hf
    exact ⟨false, m, i, h, .inl rfl⟩
theorem po_add {x y r : Nat} (hx : Po x) (hy : Po y) (hr : double.add x y = some r) (hB : rung double r < double.infRung) : Po r := by
  obtain ⟨s, m, i, h1, h2⟩ := hx
  obtain ⟨t, n, j, g1, g2⟩ := hy
  unfold Format.add at hr
  rw [h1, g1] at hr
  simp only [Datum.sum, Option.map_some, Option.some.injEq] at hr
  rw [← hr] at hB ⊢
  exact po_sum (Int.add_nonneg (signed_po _ h2) (signed_po _ g2)) hB
/-- A difference of what is not below nothing and of what is not above it. -/
theorem po_sub {x y r : Nat} (hx : Po x) (hy : ∃ (s : Bool) (m : Nat) (i : Int), double.read y = .number s m i ∧ (s = true ∨ m = 0)) (hr : double.sub x y = some r) (hB : rung double r < double.infRung) : Po r := by
  obtain ⟨s, m, i, h1, h2⟩ := hx
  obtain ⟨t, n, j, g1, g2⟩ := hy
  unfold Format.sub at hr
  rw [h1, g1] at hr
  simp only [Datum.opposite, Datum.sum, Option.map_some, Option.some.injEq] at hr
  rw [← hr] at hB ⊢
  refine po_sum (Int.add_nonneg (signed_po _ h2) (signed_po _ ?_)) hB
  rcases g2 with h | h
  · left; rw [h]; rfl
  · right; exact h
theorem mul_self {p x r : Nat} (hx : B double p x) (hr : double.mul x x = some r) (hB : rung double r < double.infRung) : Po r := by
  obtain ⟨m, e, h, _⟩ := B.num hx
  unfold Format.mul at hr
  rw [h] at hr
  simp only [Datum.product, Option.map_some, Option.some.injEq] at hr
  rw [← hr] at hB ⊢
  obtain ⟨n, j, hn⟩ := near_num hB
  exact ⟨_, n, j, hn, .inl (by cases (sn x) <;> rfl)⟩
theorem mul_neg_self {p x r : Nat} (hx : B double p x) (hr : double.mul x (Op.negFloat .f64 x) = some r) (hB : rung double r < double.infRung) : ∃ (s : Bool) (m : Nat) (i : Int), double.read r = .number s m i ∧ (s = true ∨ m = 0) := by
  obtain ⟨m, e, h, _⟩ := B.num hx
  unfold Format.mul at hr
  rw [h, read_neg h] at hr
  simp only [Datum.product, Option.map_some, Option.some.injEq] at hr
  rw [← hr] at hB ⊢
  obtain ⟨n, j, hn⟩ := near_num hB
  exact ⟨_, n, j, hn, .inl (by cases (sn x) <;> rfl)⟩
theorem mul_neg_swap {p q x y : Nat} (hx : B double p x) (hy : B double q y) : double.mul x (Op.negFloat .f64 y) = double.mul y (Op.negFloat .f64 x) := by
  obtain ⟨m, e, h, _⟩ := B.num hx
  obtain ⟨n, d, g, _⟩ := B.num hy
  unfold Format.mul
  rw [h, g, read_neg h, read_neg g]
  simp only [Datum.product]
  rw [Nat.mul_comm, Int.add_comm]
  have : (sn x ^^ !sn y) = (sn y ^^ !sn x) := by cases (sn x) <;> cases (sn y) <;> rfl
  rw [this]
theorem cmp_self (a : Int) : compare a a = Ordering.eq := by
  show (if a < a then Ordering.lt else if a = a then .eq else .gt) = .eq
  simp
theorem z_ne {x : Nat} (h : Z x) : fNe .f64 x 0 = false := by
  obtain ⟨s, i, hr⟩ := h
  have h0 : double.read 0 = .number false 0 double.leastPlace := by decide
  have : double.order x 0 = some .eq := by
    unfold Format.order
    rw [hr, h0]
    simp only [Datum.order]
    rw [signed_zero, signed_zero, cmp_self]
  show (double.order x 0 != some .eq) = false
  rw [this]; rfl
theorem po_lt {x : Nat} (h : Po x) : fLt .f64 x 0 = false := by
  obtain ⟨s, m, i, hr, h2⟩ := h
  have h0 : double.read 0 = .number false 0 double.leastPlace := by decide
  have : ∃ a : Int, 0 ≤ a ∧ double.order x 0 = some (compare a 0) := by
    unfold Format.order
    rw [hr, h0]
    simp only [Datum.order]
    rw [signed_zero]
    exact ⟨_, signed_po _ h2, rfl⟩
  obtain ⟨a, ha, hc⟩ := this
  show (double.order x 0 == some .lt) = false
  rw [hc]
  have hd : compare a 0 = if a < 0 then Ordering.lt else if a = 0 then .eq else .gt := rfl
  rw [hd, if_neg (by omega)]
  split <;> rfl
theorem flip_ne {x y : Nat} (h : Flip x y) : fNe .f64 x (Op.negFloat .f64 y) = false := by
  obtain ⟨s, s', m, i, h1, h2, h3⟩ := h
  have : double.order x (Op.negFloat .f64 y) = some .eq := by
    unfold Format.order
    rw [h1, read_neg h2]
    simp only [Datum.order]
    have : m = 0 ∨ (!s') = s := by
      rcases h3 with h | h
      · exact .inl h
      · right; rw [h]; cases s <;> rfl
    rcases this with h | h
    · rw [h, signed_zero, signed_zero, cmp_self]
    · rw [h, cmp_self]
  show (double.order x (Op.negFloat .f64 y) != some .eq) = false
  rw [this]; rfl
end Go.Proofs.Ytdgaaoeicijemaa.Flo
