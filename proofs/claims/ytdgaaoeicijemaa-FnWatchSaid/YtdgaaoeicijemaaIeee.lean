/- Bounds of rounded floats: a number no greater than a number of the format is rounded to no greater one; sums, products and their kin of bounded floats are floats, and bounded. -/
import Derived.Laws.FloatArith
namespace Go.Proofs.Ytdgaaoeicijemaa.Flo
open Ieee

theorem cut_le {neg : Bool} {n drop m : Nat} (h : n ≤ m * 2 ^ drop) : Toward.even.cut neg n drop ≤ m := by
  unfold Toward.cut
  dsimp only
  rw [Nat.one_shiftLeft]
  rcases Nat.lt_or_ge (n.log2 + 2) drop with hd | hd
  · rw [Nat.min_eq_right (by omega)]
    have hn : n < 2 ^ (n.log2 + 1) := Nat.lt_log2_self
    have hp : 2 ^ (n.log2 + 2) = 2 * 2 ^ (n.log2 + 1) := by rw [Nat.pow_succ, Nat.mul_comm]
    rw [Nat.div_eq_of_lt (by omega), Nat.mod_eq_of_lt (by omega)]
    have h1 : ¬ (2 ^ (n.log2 + 2) < 2 * n) := by omega
    simp [h1]
  · rw [Nat.min_eq_left hd]
    have hg : 0 < 2 ^ drop := Nat.two_pow_pos _
    generalize 2 ^ drop = gap at h hg
    have hq : n / gap ≤ m := Nat.div_le_of_le_mul (by rw [Nat.mul_comm]; exact h)
    rcases Nat.lt_or_ge (n / gap) m with hlt | hge
    · have : ∀ b : Bool, b.toNat ≤ 1 := fun b => by cases b <;> decide
      exact Nat.le_trans (Nat.add_le_add_left (this _) _) hlt
    · have he : n / gap = m := by omega
      have hr : n % gap = 0 := by
        have h1 := Nat.div_add_mod n gap
        rw [he, Nat.mul_comm] at h1
        omega
      rw [hr, he]
      have h2 : (gap == 0) = false := by rw [beq_eq_false_iff_ne]; omega
      simp [h2]
theorem le_cut {neg : Bool} {n drop m : Nat} (h : m * 2 ^ drop ≤ n) : m ≤ Toward.even.cut neg n drop := by
  unfold Toward.cut
  dsimp only
  rw [Nat.one_shiftLeft]
  have hg : 0 < 2 ^ drop := Nat.two_pow_pos _
  rcases Nat.lt_or_ge (n.log2 + 2) drop with hd | hd
  · have hn : n < 2 ^ (n.log2 + 1) := Nat.lt_log2_self
    have hp : 2 ^ (n.log2 + 1) ≤ 2 ^ drop := Nat.pow_le_pow_right (by omega) (by omega)
    have : m = 0 := by
      rcases Nat.eq_zero_or_pos m with h0 | h0
      · exact h0
      · have h3 : 2 ^ drop ≤ m * 2 ^ drop := Nat.le_mul_of_pos_left _ h0
        omega
    rw [this]
    exact Nat.zero_le _
  · rw [Nat.min_eq_left hd]
    exact Nat.le_trans ((Nat.le_div_iff_mul_le hg).2 h) (Nat.le_add_right _ _)

section
variable (f : Format)
/-- A rung's magnitude, in units of the format's last place. -/
def u (r : Nat) : Nat := if r < f.binade then r else (f.binade + r % f.binade) * 2 ^ (r / f.binade - 1)
theorem binade_pos : 0 < f.binade := Nat.two_pow_pos _
theorem u_small {r : Nat} (h : r < 2 * f.binade) : u f r = r := by
  have hb := binade_pos f
  unfold u
  split
  · rfl
  · have h1 : r / f.binade = 1 := by
      rw [Nat.div_eq_iff hb]; omega
    have h2 := Nat.div_add_mod r f.binade
    rw [h1] at h2 ⊢
    simp; omega
theorem u_big (t q : Nat) (hq : q < f.binade) : u f ((t + 1) * f.binade + q) = (f.binade + q) * 2 ^ t := by
  have hb := binade_pos f
  have h0 : f.binade ≤ (t + 1) * f.binade + q := Nat.le_trans (by rw [Nat.succ_mul]; omega) (Nat.le_add_right _ _)
  unfold u
  rw [if_neg (by omega), Nat.mul_comm (t + 1), Nat.mul_add_mod, Nat.mod_eq_of_lt hq, Nat.mul_add_div hb, Nat.div_eq_of_lt hq]
  simp
/-- A magnitude that has few digits is a rung's. -/
theorem u_of (s : Nat) : ∀ v, v < 2 * f.binade → ∃ r, u f r = v * 2 ^ s ∧ r ≤ (s + 1) * f.binade + f.binade := by
  have hb := binade_pos f
  induction s with
  | zero => intro v hv; exact ⟨v, by rw [u_small f hv]; simp, by omega⟩
  | succ s ih =>
    intro v hv
    rcases Nat.lt_or_ge v f.binade with h | h
    · obtain ⟨r, hr, hl⟩ := ih (2 * v) (by omega)
      refine ⟨r, by rw [hr, Nat.pow_succ, Nat.mul_comm (2 ^ s), ← Nat.mul_assoc, Nat.mul_comm v], ?_⟩
      rw [Nat.succ_mul (s + 1)]; omega
    · refine ⟨(s + 1 + 1) * f.binade + (v - f.binade), ?_, by omega⟩
      rw [u_big f (s + 1) (v - f.binade) (by omega), Nat.add_sub_cancel' h]
/-- What a word's lower bits are. -/
def rung (x : Nat) : Nat := x % f.signWeight
/-- A word is a number of this magnitude. -/
def Num (x : Nat) (s : Bool) (U : Nat) : Prop := ∃ (m : Nat) (e : Nat), f.read x = .number s m (f.leastPlace + e) ∧ m * 2 ^ e = U
theorem read_num {x : Nat} (h : rung f x < f.infRung) : Num f x (x / f.signWeight % 2 == 1) (u f (rung f x)) := by
  unfold Num Format.read u
  unfold rung at h ⊢
  dsimp only
  by_cases h1 : x % f.signWeight < f.binade
  · rw [if_pos h1, if_pos h1]
    exact ⟨x % f.signWeight, 0, by simp, by simp⟩
  · rw [if_neg h1, if_neg h1, if_pos h]
    exact ⟨_, _, rfl, rfl⟩
theorem word_rung {s : Bool} {r : Nat} (h : r < f.signWeight) : rung f (f.word s r) = r ∧ (f.word s r / f.signWeight % 2 == 1) = s := by
  unfold rung Format.word
  cases s with
  | false => simp [Nat.mod_eq_of_lt h, Nat.div_eq_of_lt h]
  | true =>
    have hp : 0 < f.signWeight := Nat.two_pow_pos _
    simp only [if_true]
    rw [Nat.add_mod_left, Nat.mod_eq_of_lt h, Nat.add_div_left _ hp, Nat.div_eq_of_lt h]
    simp
/-- The rung of a number that is written. -/
def nrung (mag : Nat) (place : Int) : Nat :=
  if mag = 0 then 0 else
  let last := max (place + mag.log2 - f.fractionBits) f.leastPlace
  min ((last - f.leastPlace).toNat * f.binade + Toward.even.cut false (mag <<< (place - last).toNat) (last - place).toNat) f.infRung
theorem cut_neg (s t : Bool) (n d : Nat) : Toward.even.cut s n d = Toward.even.cut t n d := rfl
theorem nearest_eq (s : Bool) (mag : Nat) (place : Int) : f.nearest s mag place = f.word s (nrung f mag place) := by
  unfold Format.nearest nrung
  split
  · rfl
  · rfl
theorem nrung_le (mag : Nat) (place : Int) : nrung f mag place ≤ f.infRung := by
  unfold nrung
  split
  · exact Nat.zero_le _
  · exact Nat.min_le_right _ _
theorem nearest_rung (s : Bool) (mag : Nat) (place : Int) : rung f (f.nearest s mag place) = nrung f mag place ∧ (f.nearest s mag place / f.signWeight % 2 == 1) = s := by
  rw [nearest_eq]
  exact word_rung f (Nat.lt_of_le_of_lt (nrung_le f mag place) f.infRung_lt)
/-- ROUNDING IS MONOTONE AT THE FORMAT's NUMBERS: what is no greater than rung R's magnitude becomes a rung of at most R. -/
theorem nrung_bound {mag : Nat} {place : Int} {R : Nat} (h : mag * 2 ^ (place - f.leastPlace).toNat ≤ u f R * 2 ^ (f.leastPlace - place).toNat) : nrung f mag place ≤ R := by
  have hb := binade_pos f
  unfold nrung
  split
  · exact Nat.zero_le _
  · rename_i hm
    dsimp only
    refine Nat.le_trans (Nat.min_le_left _ _) ?_
    have hlog : mag < 2 ^ (mag.log2 + 1) := Nat.lt_log2_self
    have hlog2 : 2 ^ mag.log2 ≤ mag := Nat.log2_self_le hm
    have hB : f.binade = 2 ^ f.fractionBits := rfl
    by_cases hl : place + mag.log2 - f.fractionBits ≤ f.leastPlace
    · rw [Int.max_eq_right hl, Int.sub_self, Int.toNat_zero, Nat.zero_mul, Nat.zero_add, Nat.shiftLeft_eq]
      -- the magnitude is below two binades
      have hsmall : mag * 2 ^ (place - f.leastPlace).toNat ≤ 2 * f.binade * 2 ^ (f.leastPlace - place).toNat := by
        rw [hB]
        rcases Int.le_total f.leastPlace place with hp | hp
        · rw [show (f.leastPlace - place).toNat = 0 by omega, Nat.pow_zero, Nat.mul_one, show 2 * 2 ^ f.fractionBits = 2 ^ (f.fractionBits + 1) by rw [Nat.pow_succ, Nat.mul_comm]]
          refine Nat.le_trans (Nat.mul_le_mul_right _ (Nat.le_of_lt hlog)) ?_
          rw [← Nat.pow_add]
          exact Nat.pow_le_pow_right (by omega) (by omega)
        · rw [show (place - f.leastPlace).toNat = 0 by omega, Nat.pow_zero, Nat.mul_one, show 2 * 2 ^ f.fractionBits = 2 ^ (f.fractionBits + 1) by rw [Nat.pow_succ, Nat.mul_comm], ← Nat.pow_add]
          exact Nat.le_trans (Nat.le_of_lt hlog) (Nat.pow_le_pow_right (by omega) (by omega))
      rcases Nat.lt_or_ge R (2 * f.binade) with hR | hR
      · rw [u_small f hR] at h
        exact cut_le h
      · exact Nat.le_trans (cut_le hsmall) hR
    · have hl' : f.leastPlace < place + mag.log2 - f.fractionBits := by omega
      rw [Int.max_eq_left (by omega)]
      generalize hq : (place + (mag.log2 : Int) - f.fractionBits - f.leastPlace).toNat = q
      have hq1 : 1 ≤ q := by omega
      -- x' = mag * 2^(place - last)
      have hx : mag <<< (place - (place + (mag.log2 : Int) - f.fractionBits)).toNat = mag * 2 ^ (f.fractionBits - mag.log2) := by
        rw [Nat.shiftLeft_eq]
        congr 2
        omega
      have hd : (place + (mag.log2 : Int) - f.fractionBits - place).toNat = mag.log2 - f.fractionBits := by omega
      rw [hx, hd]
      have key : ∀ c, mag * 2 ^ (f.fractionBits - mag.log2) ≤ c * 2 ^ (mag.log2 - f.fractionBits) → q * f.binade + Toward.even.cut false (mag * 2 ^ (f.fractionBits - mag.log2)) (mag.log2 - f.fractionBits) ≤ q * f.binade + c := fun c hc => Nat.add_le_add_left (cut_le hc) _
      -- at most two binades
      have htop : mag * 2 ^ (f.fractionBits - mag.log2) ≤ 2 * f.binade * 2 ^ (mag.log2 - f.fractionBits) := by
        rw [hB, show 2 * 2 ^ f.fractionBits = 2 ^ (f.fractionBits + 1) by rw [Nat.pow_succ, Nat.mul_comm], ← Nat.pow_add]
        refine Nat.le_trans (Nat.mul_le_mul_right _ (Nat.le_of_lt hlog)) ?_
        rw [← Nat.pow_add]
        exact Nat.pow_le_pow_right (by omega) (by omega)
      rcases Nat.lt_or_ge R ((q + 2) * f.binade) with hR | hR
      · -- R lies in binade q + 1, or below
        rcases Nat.lt_or_ge R ((q + 1) * f.binade) with hR2 | hR2
        · exfalso
          have hu : u f R < 2 ^ (f.fractionBits + q) := by
            unfold u
            split
            · rename_i h1
              rw [hB] at h1
              exact Nat.lt_of_lt_of_le h1 (Nat.pow_le_pow_right (by omega) (by omega))
            · have h3 : R / f.binade < q + 1 := (Nat.div_lt_iff_lt_mul hb).2 hR2
              have h4 : R % f.binade < f.binade := Nat.mod_lt _ hb
              have h5 : f.binade + R % f.binade < 2 ^ (f.fractionBits + 1) := by rw [Nat.pow_succ, ← hB]; omega
              refine Nat.lt_of_lt_of_le (Nat.mul_lt_mul_of_pos_right h5 (Nat.two_pow_pos _)) ?_
              rw [← Nat.pow_add]
              exact Nat.pow_le_pow_right (by omega) (by omega)
          have h1 : 2 ^ mag.log2 * 2 ^ (place - f.leastPlace).toNat ≤ u f R * 2 ^ (f.leastPlace - place).toNat := Nat.le_trans (Nat.mul_le_mul_right _ hlog2) h
          have h2 := Nat.lt_of_le_of_lt h1 (Nat.mul_lt_mul_of_pos_right hu (Nat.two_pow_pos _))
          rw [← Nat.pow_add, ← Nat.pow_add] at h2
          have h3 := (Nat.pow_lt_pow_iff_right (show 1 < 2 by omega)).1 h2
          omega
        · obtain ⟨p, rfl⟩ : ∃ p, R = (q + 1) * f.binade + p := ⟨R - (q + 1) * f.binade, by omega⟩
          have hp : p < f.binade := by rw [show (q + 2) * f.binade = (q + 1) * f.binade + f.binade by rw [← Nat.succ_mul]] at hR; omega
          rw [u_big f q p hp] at h
          rw [show (q + 1) * f.binade + p = q * f.binade + (f.binade + p) by rw [Nat.succ_mul]; omega]
          refine key _ ?_
          -- cancel the common power
          have hpw : 2 ^ (place - f.leastPlace).toNat * 2 ^ (mag.log2 - f.fractionBits) = 2 ^ (q + (f.leastPlace - place).toNat) * 2 ^ (f.fractionBits - mag.log2) := by
            rw [← Nat.pow_add, ← Nat.pow_add]
            congr 1
            omega
          refine Nat.le_of_mul_le_mul_right (c := 2 ^ (q + (f.leastPlace - place).toNat)) ?_ (Nat.two_pow_pos _)
          have h6 : mag * 2 ^ (f.fractionBits - mag.log2) * 2 ^ (q + (f.leastPlace - place).toNat) = mag * 2 ^ (place - f.leastPlace).toNat * 2 ^ (mag.log2 - f.fractionBits) := by
            rw [Nat.mul_assoc, Nat.mul_comm (2 ^ (f.fractionBits - mag.log2)), ← hpw, ← Nat.mul_assoc]
          have h7 : (f.binade + p) * 2 ^ (mag.log2 - f.fractionBits) * 2 ^ (q + (f.leastPlace - place).toNat) = (f.binade + p) * 2 ^ q * 2 ^ (f.leastPlace - place).toNat * 2 ^ (mag.log2 - f.fractionBits) := by
            rw [Nat.pow_add]; simp only [Nat.mul_assoc, Nat.mul_comm, Nat.mul_left_comm]
          rw [h6, h7]
          exact Nat.mul_le_mul_right _ h
      · refine Nat.le_trans (key _ htop) ?_
        rw [← Nat.add_mul]
        exact hR
end
end Go.Proofs.Ytdgaaoeicijemaa.Flo
