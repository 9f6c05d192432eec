/- The way between two spots is a metric. -/
import Derived.Test.YthjchjnibbapcaaZHalJ
namespace Go.Proofs.Ythjchjnibbapcaa.ZMetJ
open Go.RowKit Go.Proofs.Ythjchjnibbapcaa.J Go.Proofs.Ythjchjnibbapcaa.Lib Go.Proofs.Ythjchjnibbapcaa.ZHalJ Go.Proofs.YthjchjnibbapcaaW.PrintWords Go.Proofs.YthjchjnibbapcaaW.PrintLast Go.Proofs.YthjchjnibbapcaaW.PrintMore
theorem mx_le {a b c : Int} (h1 : a ≤ c) (h2 : b ≤ c) : mx a b ≤ c := by unfold mx; split <;> omega
theorem le_mx (a b : Int) : a ≤ mx a b ∧ b ≤ mx a b := by unfold mx; split <;> omega
theorem mn_le (a b : Int) : mn a b ≤ a ∧ mn a b ≤ b := by unfold mn; split <;> omega
theorem mn_or (a b : Int) : mn a b = a ∨ mn a b = b := by unfold mn; split <;> omega
theorem sp_in {a b c : Int} (h : Hl a b c) {p : S45} (hp : Sp a b p) : 0 ≤ p.f0 ∧ p.f0 ≤ 19 ∧ 0 ≤ p.f1 ∧ p.f1 ≤ b + 1 := by
  unfold Hl at h; unfold Sp at hp
  rw [w64 (by omega) (by omega), w64 (by omega) (by omega)] at hp
  omega
theorem cx {c x : Int} (hc : 1 ≤ c ∧ c ≤ 100) (hx : 0 ≤ x ∧ x ≤ 19) : 0 ≤ c * x ∧ c * x ≤ 1900 := by
  refine ⟨Int.mul_nonneg (by omega) hx.1, ?_⟩
  have h1 : c * x ≤ 100 * x := Int.mul_le_mul_of_nonneg_right hc.2 hx.1
  omega
theorem way_eq {a b c : Int} (h : Hl a b c) {p q : S45} (hp : Sp a b p) (hq : Sp a b q) : way a b c p q = if p.f0 = q.f0 then mx (p.f1 - q.f1) (q.f1 - p.f1) else c * mx (p.f0 - q.f0) (q.f0 - p.f0) + mn (p.f1 + q.f1) (2 * (b + 1) - (p.f1 + q.f1)) := by
  have h1 := sp_in h hp
  have h2 := sp_in h hq
  have hx := le_mx (p.f0 - q.f0) (q.f0 - p.f0)
  have hy : mx (p.f0 - q.f0) (q.f0 - p.f0) ≤ 19 := mx_le (by omega) (by omega)
  unfold Hl at h
  have hc := cx h.2.2 (x := mx (p.f0 - q.f0) (q.f0 - p.f0)) ⟨by omega, hy⟩
  have hm := mn_le (p.f1 + q.f1) (2 * (b + 1) - (p.f1 + q.f1))
  have ho := mn_or (p.f1 + q.f1) (2 * (b + 1) - (p.f1 + q.f1))
  unfold way spec_l19Far.f
  rw [w64 (x := p.f1 - q.f1) (by omega) (by omega), w64 (x := q.f1 - p.f1) (by omega) (by omega), w64 (x := p.f0 - q.f0) (by omega) (by omega), w64 (x := q.f0 - p.f0) (by omega) (by omega), w64 (x := p.f1 + q.f1) (by omega) (by omega), w64 (x := b + 1) (by omega) (by omega), w64 (x := 2 * (b + 1)) (by omega) (by omega), w64 (x := 2 * (b + 1) - (p.f1 + q.f1)) (by omega) (by omega), w64 (x := c * mx (p.f0 - q.f0) (q.f0 - p.f0)) (by omega) (by omega), w64 (x := c * mx (p.f0 - q.f0) (q.f0 - p.f0) + mn (p.f1 + q.f1) (2 * (b + 1) - (p.f1 + q.f1))) (by omega) (by omega)]
  split <;> rfl
theorem way_bd {a b c : Int} (h : Hl a b c) {p q : S45} (hp : Sp a b p) (hq : Sp a b q) : 0 ≤ way a b c p q ∧ way a b c p q ≤ 5000 := by
  rw [way_eq h hp hq]
  have h1 := sp_in h hp
  have h2 := sp_in h hq
  unfold Hl at h
  have hy := le_mx (p.f1 - q.f1) (q.f1 - p.f1)
  have hy1 : mx (p.f1 - q.f1) (q.f1 - p.f1) ≤ b + 1 := mx_le (by omega) (by omega)
  have hx := le_mx (p.f0 - q.f0) (q.f0 - p.f0)
  have hx1 : mx (p.f0 - q.f0) (q.f0 - p.f0) ≤ 19 := mx_le (by omega) (by omega)
  have hc := cx h.2.2 (x := mx (p.f0 - q.f0) (q.f0 - p.f0)) ⟨by omega, hx1⟩
  have hm := mn_le (p.f1 + q.f1) (2 * (b + 1) - (p.f1 + q.f1))
  have ho := mn_or (p.f1 + q.f1) (2 * (b + 1) - (p.f1 + q.f1))
  split <;> omega
theorem mx_comm (a b : Int) : mx a b = mx b a := by unfold mx; split <;> split <;> omega
theorem way_symm {a b c : Int} (h : Hl a b c) {p q : S45} (hp : Sp a b p) (hq : Sp a b q) : way a b c p q = way a b c q p := by
  rw [way_eq h hp hq, way_eq h hq hp, mx_comm (q.f1 - p.f1), mx_comm (q.f0 - p.f0), Int.add_comm q.f1 p.f1]
  by_cases e : p.f0 = q.f0
  · rw [if_pos e, if_pos e.symm]
  · rw [if_neg e, if_neg (fun h => e h.symm)]
theorem way_tri {a b c : Int} (h : Hl a b c) {p q r : S45} (hp : Sp a b p) (hq : Sp a b q) (hr : Sp a b r) : way a b c p r ≤ way a b c p q + way a b c q r := by
  rw [way_eq h hp hq, way_eq h hq hr, way_eq h hp hr]
  have h1 := sp_in h hp
  have h2 := sp_in h hq
  have h3 := sp_in h hr
  unfold Hl at h
  have a1 := le_mx (p.f1 - q.f1) (q.f1 - p.f1)
  have a2 := le_mx (q.f1 - r.f1) (r.f1 - q.f1)
  have b1 := le_mx (p.f0 - q.f0) (q.f0 - p.f0)
  have b2 := le_mx (q.f0 - r.f0) (r.f0 - q.f0)
  have b3 : mx (p.f0 - r.f0) (r.f0 - p.f0) ≤ mx (p.f0 - q.f0) (q.f0 - p.f0) + mx (q.f0 - r.f0) (r.f0 - q.f0) := mx_le (by omega) (by omega)
  have a3 : mx (p.f1 - r.f1) (r.f1 - p.f1) ≤ mx (p.f1 - q.f1) (q.f1 - p.f1) + mx (q.f1 - r.f1) (r.f1 - q.f1) := mx_le (by omega) (by omega)
  have m1 := mn_or (p.f1 + q.f1) (2 * (b + 1) - (p.f1 + q.f1))
  have m2 := mn_or (q.f1 + r.f1) (2 * (b + 1) - (q.f1 + r.f1))
  have m3 := mn_le (p.f1 + r.f1) (2 * (b + 1) - (p.f1 + r.f1))
  have c3 : c * mx (p.f0 - r.f0) (r.f0 - p.f0) ≤ c * mx (p.f0 - q.f0) (q.f0 - p.f0) + c * mx (q.f0 - r.f0) (r.f0 - q.f0) := by
    rw [← Int.mul_add]
    exact Int.mul_le_mul_of_nonneg_left b3 (by omega)
  have c1 : 0 ≤ c * mx (p.f0 - q.f0) (q.f0 - p.f0) := Int.mul_nonneg (by omega) (by omega)
  have c2 : 0 ≤ c * mx (q.f0 - r.f0) (r.f0 - q.f0) := Int.mul_nonneg (by omega) (by omega)
  by_cases e1 : p.f0 = q.f0
  · rw [if_pos e1]
    by_cases e2 : q.f0 = r.f0
    · rw [if_pos e2, if_pos (e1.trans e2)]
      exact a3
    · rw [if_neg e2, if_neg (fun e => e2 (e1.symm.trans e)), e1]
      generalize c * mx (q.f0 - r.f0) (r.f0 - q.f0) = u at *
      omega
  · rw [if_neg e1]
    by_cases e2 : q.f0 = r.f0
    · rw [if_pos e2, if_neg (fun e => e1 (e.trans e2.symm)), ← e2]
      generalize c * mx (p.f0 - q.f0) (q.f0 - p.f0) = u at *
      omega
    · rw [if_neg e2]
      generalize c * mx (p.f0 - q.f0) (q.f0 - p.f0) = u at *
      generalize c * mx (q.f0 - r.f0) (r.f0 - q.f0) = v at *
      by_cases e3 : p.f0 = r.f0
      · rw [if_pos e3]
        have : mx (p.f1 - r.f1) (r.f1 - p.f1) ≤ mn (p.f1 + q.f1) (2 * (b + 1) - (p.f1 + q.f1)) + mn (q.f1 + r.f1) (2 * (b + 1) - (q.f1 + r.f1)) := mx_le (by omega) (by omega)
        omega
      · rw [if_neg e3]
        generalize c * mx (p.f0 - r.f0) (r.f0 - p.f0) = z at *
        omega
end Go.Proofs.Ythjchjnibbapcaa.ZMetJ
