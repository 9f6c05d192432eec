/- The statement of FnExactBetween as plain Lean: at every hall and every two spots the program's Between answers as the reference's: no condition beyond that the numbers are whole numbers of their kind. -/
import Derived.Test.YtdnahjgboabdhaaSFnExactBetween
namespace Go.Proofs.Ytdnahjgboabdhaa.Pure
open Go.RowKit Go.Proofs.Ytdnahjgboabdhaa.Q Go.Proofs.YtdnahjgboabdhaaW.PrintWords Go.Proofs.YtdnahjgboabdhaaW.PrintLast Go.Proofs.YtdnahjgboabdhaaW.PrintMore

theorem l01In_eq (a b c : Int) : spec_l01In.f a b c = some (decide (b ≤ a ∧ a ≤ c)) := by
  unfold spec_l01In.f
  by_cases h : a ≥ b
  · rw [if_pos h]; simp [h]
  · rw [if_neg h]; simp; omega
theorem within_eq (a b c : Int) : impl_within.f a b c = some (decide (b ≤ a ∧ a ≤ c)) := l01In_eq a b c
theorem w64 {x : Int} (h0 : -9223372036854775808 ≤ x) (h1 : x ≤ 9223372036854775807) : wrap64 x = x := by
  unfold wrap64; omega
theorem hall_eq (a b c : Int) : spec_l19Hall.f a b c = some (decide ((1 ≤ a ∧ a ≤ 20) ∧ (1 ≤ b ∧ b ≤ 100) ∧ (1 ≤ c ∧ c ≤ 100))) := by
  unfold spec_l19Hall.f
  simp only [l01In_eq, Option.bind_some]
  by_cases h1 : 1 ≤ a ∧ a ≤ 20 <;> by_cases h2 : 1 ≤ b ∧ b ≤ 100 <;> by_cases h3 : 1 ≤ c ∧ c ≤ 100 <;> simp [h1, h2, h3]
theorem spot_eq (a b c x y : Int) : spec_l19Spot.f a b c x y = some (decide ((0 ≤ x ∧ x ≤ wrap64 (a - 1)) ∧ (0 ≤ y ∧ y ≤ wrap64 (b + 1)))) := by
  unfold spec_l19Spot.f
  simp only [l01In_eq, Option.bind_some]
  by_cases h1 : 0 ≤ x ∧ x ≤ wrap64 (a - 1) <;> by_cases h2 : 0 ≤ y ∧ y ≤ wrap64 (b + 1) <;> simp [h1, h2]
theorem far_eq (a b c x y u v : Int) (ha : 1 ≤ a ∧ a ≤ 20) (hb : 1 ≤ b ∧ b ≤ 100) (hx : 0 ≤ x ∧ x ≤ wrap64 (a - 1)) (hy : 0 ≤ y ∧ y ≤ wrap64 (b + 1)) (hu : 0 ≤ u ∧ u ≤ wrap64 (a - 1)) (hv : 0 ≤ v ∧ v ≤ wrap64 (b + 1)) :
    impl_Hall_between.f a b c x y u v = spec_l19Far.f a b c x y u v := by
  rw [w64 (by omega) (by omega)] at hx hy hu hv
  unfold impl_Hall_between.f spec_l19Far.f impl_sizeOf.f
  simp only [Option.bind_some]
  rw [w64 (x := y - v) (by omega) (by omega), w64 (x := v - y) (by omega) (by omega), w64 (x := x - u) (by omega) (by omega), w64 (x := u - x) (by omega) (by omega), w64 (x := -(y - v)) (by omega) (by omega), w64 (x := -(x - u)) (by omega) (by omega)]
  rw [show -(y - v) = v - y by omega, show -(x - u) = u - x by omega]
theorem isHall_eq : impl_isHall.f = spec_l19Hall.f := rfl
theorem has_eq : impl_Hall_has.f = spec_l19Spot.f := rfl
theorem between_eq (a b c x y u v : Int) : impl_Between.f a b c x y u v = spec_Between.f a b c x y u v := by
  unfold impl_Between.f spec_Between.f
  rw [isHall_eq, has_eq]
  simp only [hall_eq, spot_eq, Option.bind_some, decide_eq_true_eq]
  by_cases h1 : (1 ≤ a ∧ a ≤ 20) ∧ (1 ≤ b ∧ b ≤ 100) ∧ (1 ≤ c ∧ c ≤ 100)
  · rw [if_pos h1, if_pos h1]
    by_cases h2 : (0 ≤ x ∧ x ≤ wrap64 (a - 1)) ∧ (0 ≤ y ∧ y ≤ wrap64 (b + 1))
    · rw [if_pos h2, if_pos h2]
      by_cases h3 : (0 ≤ u ∧ u ≤ wrap64 (a - 1)) ∧ (0 ≤ v ∧ v ≤ wrap64 (b + 1))
      · rw [if_pos h3, if_pos h3, far_eq a b c x y u v h1.1 h1.2.1 h2.1 h2.2 h3.1 h3.2]
      · rw [if_neg h3, if_neg h3]
    · rw [if_neg h2, if_neg h2]
  · rw [if_neg h1, if_neg h1]
theorem between_some (a b c x y u v : Int) : ∃ r, spec_Between.f a b c x y u v = some r := by
  unfold spec_Between.f
  simp only [hall_eq, spot_eq, Option.bind_some]
  have hf : ∃ z, spec_l19Far.f a b c x y u v = some z := by unfold spec_l19Far.f; split <;> exact ⟨_, rfl⟩
  obtain ⟨z, hz⟩ := hf
  rw [hz]
  simp only [Option.bind_some]
  repeat' split
  all_goals exact ⟨_, rfl⟩
theorem FnExactBetween : laws_FnExactBetween.Pure := by
  intro x0 x1 x2 _ _ _
  unfold laws_FnExactBetween.f laws_toHall.f laws_toSpot.f
  simp only [Option.bind_some, between_eq]
  obtain ⟨r, hr⟩ := between_some x0.f0 x0.f1 x0.f2 x1.f0 x1.f1 x2.f0 x2.f1
  rw [hr]
  simp
end Go.Proofs.Ytdnahjgboabdhaa.Pure
