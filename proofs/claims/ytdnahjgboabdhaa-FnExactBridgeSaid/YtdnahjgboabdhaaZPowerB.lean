/- Powers: lists of them, what the tests come to, the law's copies. -/
import Derived.Test.YtdnahjgboabdhaaZSameB
namespace Go.Proofs.Ytdnahjgboabdhaa.ZPowerB
open Go.RowKit Go.Proofs.Ytdnahjgboabdhaa.B Go.Proofs.Ytdnahjgboabdhaa.Lib Go.Proofs.Ytdnahjgboabdhaa.Flo Go.Proofs.Ytdnahjgboabdhaa.ZSameB Go.Proofs.YtdnahjgboabdhaaW.PrintWords Go.Proofs.YtdnahjgboabdhaaW.PrintLast Go.Proofs.YtdnahjgboabdhaaW.PrintMore

/-- A part of a power. -/
def inP (x : Nat) : Bool := fGe .f64 x 13920209183539462144 && fLe .f64 x 4696837146684686336
theorem read_lo : Ieee.double.read 13920209183539462144 = .number true 8589934592000000 (Ieee.double.leastPlace + ((1041 : Nat) : Int)) := by decide
theorem read_hi : Ieee.double.read 4696837146684686336 = .number false 8589934592000000 (Ieee.double.leastPlace + ((1041 : Nat) : Int)) := by decide
theorem inP_bd {x : Nat} (h : inP x = true) : B Ieee.double 1094 x := by
  unfold inP at h
  rw [Bool.and_eq_true] at h
  exact B.range read_lo read_hi (c := 53) (by decide) (by decide) (by decide) (by decide) (ge_or h.1) (le_or h.2)
theorem within_eq (x lo hi : Nat) : spec_l22Within.f x lo hi = some (fGe .f64 x lo && fLe .f64 x hi) := by
  unfold spec_l22Within.f
  by_cases h : fGe .f64 x lo = true
  · rw [if_pos h, h, Bool.true_and]
  · rw [if_neg h, Bool.eq_false_iff.2 h, Bool.false_and]
theorem within_inP (x : Nat) : spec_l22Within.f x 13920209183539462144 4696837146684686336 = some (inP x) := within_eq x _ _
theorem powers1_eq (x : Nat) : impl_arePowers_1.f x = some (inP x) := within_eq x _ _
def okP (p : S52) : Bool := inP p.f0 && inP p.f1
def powersB (l : List S52) : Bool := decide (l.length ≤ 12) && l.all okP
theorem powers_spec (l : List S52) (hl : l.length ≤ maxLen) : Ev (fun k => spec_l22Power.f k l) (powersB l) := by
  unfold spec_l22Power.f powersB
  by_cases h : l.length > 12
  · rw [decide_eq_false (by omega), Bool.false_and]
    exact ev_pos (by omega) (ev_some _)
  · rw [decide_eq_true (by omega), Bool.true_and]
    refine ev_neg (by omega) (all_ev' l okP (fun k i => spec_l22Power.l0 k l i) hl (fun k i x hx => ?_) (fun k => ?_))
    · have := some_lt hx
      have hr : rd_T52 l (i : Int) = x := getD_some hx
      simp only [spec_l22Power.l0, hr, within_inP, Option.bind_some]
      rw [if_pos (ilt this), if_pos (ige _)]
      unfold okP
      cases inP x.f0 <;> cases inP x.f1 <;> simp
    · simp only [spec_l22Power.l0]
      rw [if_neg (by omega)]
theorem powers_impl (l : List S52) (hl : l.length ≤ maxLen) : Ev (fun k => impl_arePowers.f k l) (powersB l) := by
  unfold impl_arePowers.f powersB
  by_cases h : l.length > 12
  · rw [decide_eq_false (by omega), Bool.false_and]
    exact ev_neg (by omega) (ev_some _)
  · rw [decide_eq_true (by omega), Bool.true_and]
    have he : ∀ p : S52, impl_arePowers_2.f p.f0 p.f1 = some (!okP p) := by
      intro p
      unfold impl_arePowers_2.f okP
      simp only [powers1_eq, Option.bind_some]
      cases inP p.f0 <;> cases inP p.f1 <;> simp
    have hx : Ev (fun k => slices_IndexFunc_at_impl_arePowers_2.f k l) (fidx (fun p => !okP p) l 0) := by
      unfold slices_IndexFunc_at_impl_arePowers_2.f
      refine index_ev' l _ (fun k i => slices_IndexFunc_at_impl_arePowers_2.l0 k l (l.length : Int) i) hl (fun k i x hx => ?_) (fun k => ?_)
      · have := some_lt hx
        have hr : rd_T52 l (i : Int) = x := getD_some hx
        simp only [slices_IndexFunc_at_impl_arePowers_2.l0, hr, he, Option.bind_some]
        rw [if_pos (ilt this), if_pos (ige _), if_pos (ilt this)]
      · simp only [slices_IndexFunc_at_impl_arePowers_2.l0]
        rw [if_neg (by omega)]
    have hc : Ev (fun k => slices_ContainsFunc_at_impl_arePowers_2.f k l) (l.any fun p => !okP p) := any_of_index hx
    refine ev_pos (by omega) (ev_bind hc (ev_eq (ev_some _) ?_))
    rw [List.all_eq_not_any_not]
theorem powers_mem {l : List S52} (h : powersB l = true) : l.length ≤ 12 ∧ ∀ p ∈ l, B Ieee.double 1094 p.f0 ∧ B Ieee.double 1094 p.f1 := by
  unfold powersB at h
  rw [Bool.and_eq_true, List.all_eq_true] at h
  refine ⟨of_decide_eq_true h.1, fun p hp => ?_⟩
  have := h.2 p hp
  unfold okP at this
  rw [Bool.and_eq_true] at this
  exact ⟨inP_bd this.1, inP_bd this.2⟩
/-- The law's copies of powers. -/
def conv (p : S104) : S52 := ⟨p.f0, p.f1⟩
theorem to_powers (l : List S104) (hl : l.length ≤ 1048576) : Ev (fun k => laws_toPowerS.f k l) (l.map conv) := by
  unfold laws_toPowerS.f
  simp only [if_pos (ige _), Int.toNat_natCast, if_pos (show l.length ≤ 17592186044416 by omega)]
  refine to_ev l _ conv (fun k out i => laws_toPowerS.l0 k l out i) (by unfold maxLen; omega) (fun k out i x hx ho => ?_) (fun k out => ?_)
  · have := some_lt hx
    simp only [laws_toPowerS.l0, rd_T104, laws_toPower.f, Option.bind_some]
    rw [if_pos (ilt this), if_pos (ige _), if_pos (by omega), getD_some hx]; rfl
  · simp only [laws_toPowerS.l0]
    rw [if_neg (by omega)]
theorem eq_power (x y : Nat) : Ev (fun k => laws_eqPower.f k x y x y) true := by
  unfold laws_eqPower.f
  exact ev_bind (same_ev x) (ev_pos rfl (ev_bind (same_ev y) (ev_pos rfl (ev_some _))))
theorem eq_powers (l : List S52) (hl : l.length ≤ maxLen) : Ev (fun k => laws_eqPowerS.f k l l) true := by
  unfold laws_eqPowerS.f
  simp only [if_true]
  refine ev_eq (all_ev l (fun _ => true) (fun k i => laws_eqPowerS.l0 k l l i) (fun k x => laws_eqPower.f k x.f0 x.f1 x.f0 x.f1) hl (fun x _ => eq_power x.f0 x.f1) (fun k i x hx => ?_) (fun k => ?_)) (by simp)
  · have := some_lt hx
    have hr : rd_T52 l (i : Int) = x := getD_some hx
    simp only [laws_eqPowerS.l0, hr]
    rw [if_pos (ilt this), if_pos (ige _), if_pos (ilt this)]
  · simp only [laws_eqPowerS.l0]
    rw [if_neg (by omega)]
theorem sz_powers (l : List S104) (n : Int) (hl : l.length ≤ maxLen) (h0 : 0 ≤ n) (h1 : n ≤ 1048576) : ((l.length : Int) ≤ n ∧ laws_szPowerS.f l n = some (n - l.length)) ∨ ∃ m, m < 0 ∧ laws_szPowerS.f l n = some m := by
  unfold maxLen at hl
  unfold laws_szPowerS.f
  rw [w64 (by omega) (by omega)]
  by_cases h : (n - (l.length : Int)) < 0
  · exact .inr ⟨-1, by omega, by rw [if_pos h]⟩
  · exact .inl ⟨by omega, by rw [if_neg h]⟩
theorem zero_nn : NN Ieee.double 0 := by
  have h : Ieee.double.read 0 = .number false 0 (Ieee.double.leastPlace + ((0 : Nat) : Int)) := by decide
  intro s t hc
  have hc' : Ieee.double.read 0 = .nan s t := hc
  rw [h] at hc'; cases hc'
end Go.Proofs.Ytdnahjgboabdhaa.ZPowerB
