/- Halls and spots: what the program's and the reference's tests and ways come to. -/
import Derived.Test.YthjchjnibbapcaaLib
import Derived.Test.YthjchjnibbapcaaSFnPath
namespace Go.Proofs.Ythjchjnibbapcaa.ZHalJ
open Go.RowKit Go.Proofs.Ythjchjnibbapcaa.J Go.Proofs.Ythjchjnibbapcaa.Lib Go.Proofs.YthjchjnibbapcaaW.PrintWords Go.Proofs.YthjchjnibbapcaaW.PrintLast Go.Proofs.YthjchjnibbapcaaW.PrintMore

theorem l01In_eq (a b c : Int) : spec_l01In.f a b c = some (decide (b ≤ a ∧ a ≤ c)) := by
  unfold spec_l01In.f
  by_cases h : a ≥ b
  · rw [if_pos h]; simp [h]
  · rw [if_neg h]; simp; omega
theorem hall_eq (a b c : Int) : spec_l19Hall.f a b c = some (decide ((1 ≤ a ∧ a ≤ 20) ∧ (1 ≤ b ∧ b ≤ 100) ∧ (1 ≤ c ∧ c ≤ 100))) := by
  unfold spec_l19Hall.f
  simp only [l01In_eq, Option.bind_some]
  by_cases h1 : 1 ≤ a ∧ a ≤ 20 <;> by_cases h2 : 1 ≤ b ∧ b ≤ 100 <;> by_cases h3 : 1 ≤ c ∧ c ≤ 100 <;> simp [h1, h2, h3]
theorem spot_eq (a b c x y : Int) : spec_l19Spot.f a b c x y = some (decide ((0 ≤ x ∧ x ≤ wrap64 (a - 1)) ∧ (0 ≤ y ∧ y ≤ wrap64 (b + 1)))) := by
  unfold spec_l19Spot.f
  simp only [l01In_eq, Option.bind_some]
  by_cases h1 : 0 ≤ x ∧ x ≤ wrap64 (a - 1) <;> by_cases h2 : 0 ≤ y ∧ y ≤ wrap64 (b + 1) <;> simp [h1, h2]
theorem far_eq (a b c x y u v : Int) (ha : 1 ≤ a ∧ a ≤ 20) (hb : 1 ≤ b ∧ b ≤ 100) (hx : 0 ≤ x ∧ x ≤ wrap64 (a - 1)) (hy : 0 ≤ y ∧ y ≤ wrap64 (b + 1)) (hu : 0 ≤ u ∧ u ≤ wrap64 (a - 1)) (hv : 0 ≤ v ∧ v ≤ wrap64 (b + 1)) :
    impl_Hall_between.f a b c x y u v = spec_l19Far.f a b c x y u v := by
  rw [w64 (by omega) (by omega)] at hx hy hu hv
  unfold impl_Hall_between.f spec_l19Far.f impl_sizeOf.f
  simp only [Option.bind_some]
  rw [w64 (x := y - v) (by omega) (by omega), w64 (x := v - y) (by omega) (by omega), w64 (x := x - u) (by omega) (by omega), w64 (x := u - x) (by omega) (by omega), w64 (x := -(y - v)) (by omega) (by omega), w64 (x := -(x - u)) (by omega) (by omega)]
  rw [show -(y - v) = v - y by omega, show -(x - u) = u - x by omega]
theorem isHall_eq : impl_isHall.f = spec_l19Hall.f := rfl
theorem has_eq : impl_Hall_has.f = spec_l19Spot.f := rfl
def Hl (a b c : Int) : Prop := (1 ≤ a ∧ a ≤ 20) ∧ (1 ≤ b ∧ b ≤ 100) ∧ (1 ≤ c ∧ c ≤ 100)
def Sp (a b : Int) (p : S45) : Prop := (0 ≤ p.f0 ∧ p.f0 ≤ wrap64 (a - 1)) ∧ (0 ≤ p.f1 ∧ p.f1 ≤ wrap64 (b + 1))
instance (a b c : Int) : Decidable (Hl a b c) := by unfold Hl; infer_instance
instance (a b : Int) (p : S45) : Decidable (Sp a b p) := by unfold Sp; infer_instance
theorem hall_hl (a b c : Int) : spec_l19Hall.f a b c = some (decide (Hl a b c)) := hall_eq a b c
theorem spot_sp (a b c : Int) (p : S45) : spec_l19Spot.f a b c p.f0 p.f1 = some (decide (Sp a b p)) := spot_eq a b c p.f0 p.f1
theorem sp_zero {a b c : Int} (h : Hl a b c) : Sp a b ⟨0, 0⟩ := by
  unfold Hl at h; unfold Sp
  rw [w64 (by omega) (by omega), w64 (by omega) (by omega)]
  simp; omega
def way (a b c : Int) (p q : S45) : Int := (spec_l19Far.f a b c p.f0 p.f1 q.f0 q.f1).getD 0
theorem far_way (a b c : Int) (p q : S45) : spec_l19Far.f a b c p.f0 p.f1 q.f0 q.f1 = some (way a b c p q) := by
  unfold way spec_l19Far.f
  split <;> rfl
theorem between_way {a b c : Int} {p q : S45} (h : Hl a b c) (hp : Sp a b p) (hq : Sp a b q) : impl_Hall_between.f a b c p.f0 p.f1 q.f0 q.f1 = some (way a b c p q) := by
  rw [far_eq a b c _ _ _ _ h.1 h.2.1 hp.1 hp.2 hq.1 hq.2, far_way]
def picksB (a b c : Int) (l : List S45) : Int := if l.length > 4096 then 2 else if l.length > 9 then 9 else if Hl a b c then (if (l.all fun p => decide (Sp a b p)) = true then 0 else 1) else 1
theorem picks_spec (a b c : Int) (l : List S45) (hl : l.length ≤ maxLen) : Ev (fun k => spec_l19Picks.f k a b c l) (picksB a b c l) := by
  unfold spec_l19Picks.f picksB
  by_cases h1 : l.length > 4096
  · simp only [if_pos h1, if_pos (show (l.length : Int) > 4096 by omega)]; exact ev_some _
  · simp only [if_neg h1, if_neg (show ¬ (l.length : Int) > 4096 by omega)]
    by_cases h2 : l.length > 9
    · simp only [if_pos h2, if_pos (show (l.length : Int) > 9 by omega)]; exact ev_some _
    · simp only [if_neg h2, if_neg (show ¬ (l.length : Int) > 9 by omega), hall_hl, Option.bind_some, decide_eq_true_eq]
      by_cases h3 : Hl a b c
      · simp only [if_pos h3]
        have key : Ev (fun k => spec_l19Picks.l0 k l ((0 : Nat) : Int) a b c) (if ((l.drop 0).all fun p => decide (Sp a b p)) = true then 0 else 1) := by
          refine down_list l (P := fun i => Ev (fun k => spec_l19Picks.l0 k l (i : Int) a b c) (if ((l.drop i).all fun p => decide (Sp a b p)) = true then 0 else 1)) ?_ ?_
          · refine ev_succ (fun k => ?_)
            simp only [spec_l19Picks.l0, List.drop_length, List.all_nil]
            rw [if_neg (by omega)]; rfl
          · intro i x hx hd ih
            have hi := some_lt hx
            have hr : rd_T45 l (i : Int) = x := getD_some hx
            refine Ev.step (f := fun k => if Sp a b x then spec_l19Picks.l0 k l (wrap64 ((i : Int) + 1)) a b c else some 1) (fun k => ?_) ?_
            · simp only [spec_l19Picks.l0, hr, spot_sp, Option.bind_some, decide_eq_true_eq]
              rw [if_pos (ilt hi), if_pos (ige _)]
            · rw [hd, List.all_cons, wrap_succ hi hl]
              by_cases hs : Sp a b x
              · rw [decide_eq_true hs, Bool.true_and]; exact ev_pos hs ih
              · rw [decide_eq_false hs, Bool.false_and]; exact ev_neg hs (ev_some _)
        simpa using key
      · simp only [if_neg h3]; exact ev_some _
theorem picks_impl (a b c : Int) (l : List S45) (hl : l.length ≤ maxLen) : Ev (fun k => impl_pickCode.f k a b c l) (picksB a b c l) := by
  unfold impl_pickCode.f picksB
  simp only [impl_Spot_38.f, Option.bind_some, decide_eq_true_eq]
  by_cases h1 : l.length > 4096
  · simp only [if_pos h1, if_neg (show ¬ (l.length : Int) ≤ 4096 by omega)]; exact ev_some _
  · simp only [if_neg h1, if_pos (show (l.length : Int) ≤ 4096 by omega)]
    by_cases h2 : l.length > 9
    · simp only [if_pos h2, if_pos (show (l.length : Int) > 9 by omega)]; exact ev_some _
    · simp only [if_neg h2, if_neg (show ¬ (l.length : Int) > 9 by omega), isHall_eq, hall_hl, Option.bind_some, decide_eq_true_eq]
      by_cases h3 : Hl a b c
      · simp only [if_pos h3]
        have hi : Ev (fun k => slices_IndexFunc_at_impl_pickCode_1.f k l a b c) (fidx (fun p => !decide (Sp a b p)) l 0) := by
          unfold slices_IndexFunc_at_impl_pickCode_1.f
          refine index_ev' l _ (fun k i => slices_IndexFunc_at_impl_pickCode_1.l0 k l (l.length : Int) i a b c) hl (fun k i x hx => ?_) (fun k => ?_)
          · have := some_lt hx
            have hr : rd_T45 l (i : Int) = x := getD_some hx
            simp only [slices_IndexFunc_at_impl_pickCode_1.l0, hr, impl_pickCode_1.f, has_eq, spot_sp, Option.bind_some]
            rw [if_pos (ilt this), if_pos (ige _), if_pos (ilt this)]
          · simp only [slices_IndexFunc_at_impl_pickCode_1.l0]
            rw [if_neg (by omega)]
        have hc : Ev (fun k => slices_ContainsFunc_at_impl_pickCode_1.f k l a b c) (l.any fun p => !decide (Sp a b p)) := any_of_index hi
        refine ev_bind hc ?_
        rw [List.all_eq_not_any_not]
        by_cases ha : (l.any fun p => !decide (Sp a b p)) = true
        · rw [ha]; exact ev_pos rfl (ev_some _)
        · rw [Bool.eq_false_iff.2 ha]; exact ev_neg (by simp) (ev_some _)
      · simp only [if_neg h3]; exact ev_some _
theorem picks_zero {a b c : Int} {l : List S45} (h : picksB a b c l = 0) : Hl a b c ∧ (∀ p ∈ l, Sp a b p) ∧ l.length ≤ 9 := by
  unfold picksB at h
  split at h
  · omega
  · split at h
    · omega
    · split at h
      · rename_i h3
        split at h
        · rename_i h4
          exact ⟨h3, fun p hp => of_decide_eq_true (List.all_eq_true.1 h4 p hp), by omega⟩
        · omega
      · omega
end Go.Proofs.Ythjchjnibbapcaa.ZHalJ
