/- Floats whose signs are turned; products that commute. -/
import Derived.Test.YtdgaaoeicijemaaFlor
namespace Go.Proofs.Ytdgaaoeicijemaa.Flo
open Ieee Go

/-- The same magnitude; the other sign, or nothing at all. -/
def Flip (x x' : Nat) : Prop := ∃ (s s' : Bool) (m : Nat) (i : Int), double.read x = .number s m i ∧ double.read x' = .number s' m i ∧ (m = 0 ∨ s' = !s)
theorem mul_comm_bits (x y : Nat) : double.mul x y = double.mul y x := by
  unfold Format.mul
  cases double.read x with
  | nan a b => cases double.read y <;> rfl
  | infinity s =>
    cases double.read y with
    | nan a b => rfl
    | infinity t => simp only [Datum.product]; rw [Bool.xor_comm]
    | number t n j => rfl
  | number s m i =>
    cases double.read y with
    | nan a b => rfl
    | infinity t => rfl
    | number t n j => simp only [Datum.product]; rw [Bool.xor_comm, Nat.mul_comm, Int.add_comm]
theorem read_neg {x : Nat} {s : Bool} {m : Nat} {i : Int} (h : double.read x = .number s m i) : double.read (Op.negFloat .f64 x) = .number (!s) m i := by
  have hr : (Op.negFloat .f64 x) % double.signWeight = x % double.signWeight := neg_rung x
  have hs : (Op.negFloat .f64 x / double.signWeight % 2 == 1) = !(x / double.signWeight % 2 == 1) := by
    show ((x ^^^ 2 ^ 63) / 2 ^ 63 % 2 == 1) = !(x / 2 ^ 63 % 2 == 1)
    have h1 : (x ^^^ 2 ^ 63) / 2 ^ 63 = (x / 2 ^ 63) ^^^ 1 := by
      rw [← Nat.shiftRight_eq_div_pow, ← Nat.shiftRight_eq_div_pow, Nat.shiftRight_xor_distrib]
      rfl
    rw [h1]
    have h2 : ((x / 2 ^ 63) ^^^ 1) % 2 = ((x / 2 ^ 63) % 2) ^^^ 1 := by
      have := Nat.xor_mod_two_pow (a := x / 2 ^ 63) (b := 1) (n := 1)
      simpa using this
    rw [h2]
    rcases Nat.mod_two_eq_zero_or_one (x / 2 ^ 63) with h3 | h3 <;> rw [h3] <;> rfl
  unfold Format.read at h ⊢
  dsimp only at h ⊢
  rw [hr, hs]
  split at h
  · rename_i h1; rw [if_pos h1]; cases h; rfl
  · rename_i h1
    rw [if_neg h1]
    split at h
    · rename_i h2; rw [if_pos h2]; cases h; rfl
    · split at h <;> cases h
theorem flip_neg {p x : Nat} (h : B double p x) : Flip x (Op.negFloat .f64 x) := by
  obtain ⟨m, e, hr, _⟩ := B.num h
  exact ⟨_, _, _, _, hr, read_neg hr, .inr rfl⟩
/-- What is written of the same magnitude. -/
theorem flip_near {s s' : Bool} {T : Nat} {b : Int} (hf : rung double (double.nearest s T b) < double.infRung) (h : T = 0 ∨ s' = !s) : Flip (double.nearest s T b) (double.nearest s' T b) := by
  have e1 := nearest_rung double s T b
  have e2 := nearest_rung double s' T b
  obtain ⟨m, e, hr, hu⟩ := read_num double hf
  have hf' : rung double (double.nearest s' T b) < double.infRung := by rw [e2.1]; rw [e1.1] at hf; exact hf
  obtain ⟨m', e', hr', hu'⟩ := read_num double hf'
  have hread : ∀ x y : Nat, rung double x = rung double y → ∀ s m i, double.read x = .number s m i → ∃ t, double.read y = .number t m i := by
    intro x y hxy s m i hx
    unfold rung at hxy
    unfold Format.read at hx ⊢
    dsimp only at hx ⊢
    rw [← hxy]
    split at hx
    · rename_i h1; rw [if_pos h1]; cases hx; exact ⟨_, rfl⟩
    · rename_i h1
      rw [if_neg h1]
      split at hx
      · rename_i h2; rw [if_pos h2]; cases hx; exact ⟨_, rfl⟩
      · split at hx <;> cases hx
  obtain ⟨t, ht⟩ := hread _ _ (e1.1.trans e2.1.symm) _ _ _ hr
  rw [hr'] at ht
  have hinj := Datum.number.inj ht
  rw [hinj.2.1, hinj.2.2] at hr'
  refine ⟨_, _, m, _, hr, hr', ?_⟩
  rcases h with h0 | h0
  · left
    have hz : rung double (double.nearest s T b) = 0 := by rw [e1.1, h0]; unfold nrung; rw [if_pos rfl]
    rw [hz] at hu
    have hu0 : u double 0 = 0 := by decide
    rw [hu0] at hu
    rcases Nat.mul_eq_zero.1 hu with h1 | h1
    · exact h1
    · have := Nat.two_pow_pos e; omega
  · right
    rw [e1.2, e2.2, h0]
theorem flip_mul {x x' y r r' : Nat} (h : Flip x x') {p : Nat} (hy : B double p y) (hr : double.mul x y = some r) (hr' : double.mul x' y = some r') (hB : rung double r < double.infRung) : Flip r r' := by
  obtain ⟨s, s', m, i, h1, h2, h3⟩ := h
  obtain ⟨n, d, hn, _⟩ := B.num hy
  unfold Format.mul at hr hr'
  rw [h1, hn] at hr
  rw [h2, hn] at hr'
  simp only [Datum.product, Option.map_some, Option.some.injEq] at hr hr'
  rw [← hr, ← hr']
  rw [← hr] at hB
  refine flip_near hB ?_
  rcases h3 with h0 | h0
  · left; rw [h0, Nat.zero_mul]
  · right; rw [h0]; cases s <;> cases (sn y) <;> rfl
theorem signed_flip {s s' : Bool} {m k : Nat} (h : m = 0 ∨ s' = !s) : signed s' m k = - signed s m k := by
  unfold signed
  rw [Nat.shiftLeft_eq]
  rcases h with h0 | h0
  · rw [h0]; cases s <;> cases s' <;> simp
  · rw [h0]; cases s <;> simp
theorem flip_add {x x' y y' r r' : Nat} (hx : Flip x x') (hy : Flip y y') (hr : double.add x y = some r) (hr' : double.add x' y' = some r') (hB : rung double r < double.infRung) : Flip r r' := by
  obtain ⟨s, s', m, i, h1, h2, h3⟩ := hx
  obtain ⟨t, t', n, j, g1, g2, g3⟩ := hy
  unfold Format.add at hr hr'
  rw [h1, g1] at hr
  rw [h2, g2] at hr'
  simp only [Datum.sum, Option.map_some, Option.some.injEq] at hr hr'
  rw [signed_flip h3, signed_flip g3, ← Int.neg_add, Int.natAbs_neg] at hr'
  rw [← hr, ← hr']
  rw [← hr] at hB
  refine flip_near hB ?_
  generalize signed s m (i - min i j).toNat + signed t n (j - min i j).toNat = T
  by_cases h0 : T = 0
  · left; rw [h0]; rfl
  · right
    rw [if_neg (by omega), if_neg h0]
    rcases Int.lt_or_le T 0 with h4 | h4
    · rw [decide_eq_true h4, decide_eq_false (show ¬ -T < 0 by omega)]; rfl
    · rw [decide_eq_false (show ¬ T < 0 by omega), decide_eq_true (show -T < 0 by omega)]; rfl
theorem add_comm_bits {x y : Nat} : double.add x y = double.add y x := by
  unfold Format.add
  cases double.read x with
  | nan a b => cases double.read y <;> rfl
  | infinity s =>
    cases double.read y with
    | nan a b => rfl
    | infinity t => simp only [Datum.sum]; by_cases h : s = t <;> simp [h, eq_comm]
    | number t n j => rfl
  | number s m i =>
    cases double.read y with
    | nan a b => rfl
    | infinity t => rfl
    | number t n j => simp only [Datum.sum]; rw [Int.min_comm j i, Int.add_comm, Bool.and_comm]
end Go.Proofs.Ytdgaaoeicijemaa.Flo
