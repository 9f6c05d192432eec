/- BestRoster's answer is the best of all lists; a worker more makes it no dearer; RosterOf of a list. -/
import Derived.Test.YtojncbpeeboooaaZBestRoY
namespace Go.Proofs.Ytojncbpeeboooaa.ZRoSpY
open Go.RowKit Go.Proofs.Ytojncbpeeboooaa.Y Go.Proofs.Ytojncbpeeboooaa.Lib Go.Proofs.Ytojncbpeeboooaa.ZNameY Go.Proofs.Ytojncbpeeboooaa.ZShiftsY Go.Proofs.Ytojncbpeeboooaa.ZRostCY Go.Proofs.Ytojncbpeeboooaa.ZBestRoY Go.Proofs.YtojncbpeeboooaaW.PrintWords Go.Proofs.YtojncbpeeboooaaW.PrintLast Go.Proofs.YtojncbpeeboooaaW.PrintMore
def Gd (L : List Sh) (W : List Wo) (o : List Int) : Prop := ∀ (i : Nat) (x : Int), o[i]? = some x → ∃ v : Nat, x = (v : Int) ∧ v < W.length ∧ cdv L W (o.take i) v = 0
theorem gd_nil {L : List Sh} {W : List Wo} : Gd L W [] := fun i x h => by simp at h
theorem gd_in {L : List Sh} {W : List Wo} {o : List Int} (h : Gd L W o) : In W o := fun p hp => by
  obtain ⟨i, hi, e⟩ := List.getElem_of_mem hp
  obtain ⟨v, e1, e2, _⟩ := h i p (by rw [List.getElem?_eq_getElem hi, e])
  exact ⟨v, e1, e2⟩
theorem gd_app {L : List Sh} {W : List Wo} {o : List Int} {v : Nat} (h : Gd L W o) (hv : v < W.length) (hg : cdv L W o v = 0) : Gd L W (o ++ [(v : Int)]) := by
  intro i x hx
  by_cases c : i < o.length
  · rw [List.getElem?_append_left c] at hx
    rw [List.take_append_of_le_length (by omega)]
    exact h i x hx
  · have hl := some_lt hx
    rw [List.length_append, List.length_cons, List.length_nil] at hl
    have : i = o.length := by omega
    subst this
    rw [List.getElem?_append_right (Nat.le_refl _), Nat.sub_self] at hx
    rw [List.take_left]
    exact ⟨v, (Option.some.inj hx).symm, hv, hg⟩
def Val (L : List Sh) (W : List Wo) (s : Bs) : Prop := s.1 = true → Gd L W s.2.1 ∧ s.2.1.length = L.length ∧ cz L W 0 s.2.1 = s.2.2
theorem upd_all (o : List Int) (c : Int) (s : Bs) : (upd o c s).1 = true ∧ (upd o c s).2.2 ≤ c ∧ (s.1 = true → (upd o c s).2.2 ≤ s.2.2) ∧ (upd o c s = (true, o, c) ∨ (s.1 = true ∧ upd o c s = s)) := by
  by_cases h1 : s.1 = true
  · by_cases h2 : c < s.2.2
    · rw [upd_1 h1 h2]; exact ⟨rfl, Int.le_refl _, fun _ => by dsimp only; omega, .inl rfl⟩
    · rw [upd_2 h1 h2]; exact ⟨h1, by omega, fun _ => Int.le_refl _, .inr ⟨h1, rfl⟩⟩
  · rw [upd_3 h1]; exact ⟨rfl, Int.le_refl _, fun h => absurd h h1, .inl rfl⟩
section
variable {L : List Sh} {W : List Wo} {o : List Int} {g : List Int → Bs → Bs}
theorem lp_A (hg : ∀ v s, s.1 = true → (g (o ++ [v]) s).1 = true ∧ (g (o ++ [v]) s).2.2 ≤ s.2.2) : ∀ m s, s.1 = true → (lp L W o g m s).1 = true ∧ (lp L W o g m s).2.2 ≤ s.2.2
  | 0, s, h => ⟨h, Int.le_refl _⟩
  | m + 1, s, h => by
    unfold lp
    split
    · have h1 := hg ((W.length - (m + 1) : Nat) : Int) s h
      have h2 := lp_A hg m _ h1.1
      exact ⟨h2.1, Int.le_trans h2.2 h1.2⟩
    · exact lp_A hg m s h
theorem lp_B {v : Nat} {q : Int} (hv : v < W.length) (hgv : cdv L W o v = 0) (hg : ∀ v s, s.1 = true → (g (o ++ [v]) s).1 = true ∧ (g (o ++ [v]) s).2.2 ≤ s.2.2) (hq : ∀ s, (g (o ++ [(v : Int)]) s).1 = true ∧ (g (o ++ [(v : Int)]) s).2.2 ≤ q) :
    ∀ m s, m ≤ W.length → W.length - m ≤ v → (lp L W o g m s).1 = true ∧ (lp L W o g m s).2.2 ≤ q
  | 0, s, h, h2 => by omega
  | m + 1, s, h, h2 => by
    by_cases e : W.length - (m + 1) = v
    · unfold lp
      rw [e, if_pos hgv]
      have h1 := hq s
      have h2 := lp_A hg (L := L) (W := W) m _ h1.1
      exact ⟨h2.1, Int.le_trans h2.2 h1.2⟩
    · unfold lp
      exact lp_B hv hgv hg hq m _ (by omega) (by omega)
theorem lp_C (hg : ∀ (v : Nat) s, v < W.length → cdv L W o v = 0 → Val L W s → Val L W (g (o ++ [(v : Int)]) s)) : ∀ m s, m ≤ W.length → Val L W s → Val L W (lp L W o g m s)
  | 0, s, _, h => h
  | m + 1, s, hm, h => by
    unfold lp
    refine lp_C hg m _ (by omega) ?_
    split
    · rename_i hh
      exact hg _ s (by omega) hh h
    · exact h
end
section
variable {L : List Sh} {W : List Wo}
theorem srch_A : ∀ (d : Nat) (o : List Int) (s : Bs), s.1 = true → (srch L W d o s).1 = true ∧ (srch L W d o s).2.2 ≤ s.2.2
  | 0, o, s, h => by
    unfold srch
    have := upd_all o (cz L W 0 o) s
    exact ⟨this.1, this.2.2.1 h⟩
  | d + 1, o, s, h => by
    unfold srch
    exact lp_A (fun v s h => srch_A d (o ++ [v]) s h) _ s h
theorem srch_B : ∀ (d : Nat) (o t : List Int) (s : Bs), t.length = d → Gd L W (o ++ t) → (srch L W d o s).1 = true ∧ (srch L W d o s).2.2 ≤ cz L W 0 (o ++ t)
  | 0, o, t, s, ht, hG => by
    obtain rfl := List.length_eq_zero_iff.1 ht
    rw [List.append_nil]
    unfold srch
    have := upd_all o (cz L W 0 o) s
    exact ⟨this.1, this.2.1⟩
  | d + 1, o, t, s, ht, hG => by
    obtain ⟨x, t', rfl⟩ : ∃ x t', t = x :: t' := by
      cases t with
      | nil => cases ht
      | cons x t' => exact ⟨x, t', rfl⟩
    obtain ⟨v, rfl, hv, hgv⟩ := hG o.length x (by rw [List.getElem?_append_right (Nat.le_refl _), Nat.sub_self]; rfl)
    rw [List.take_left] at hgv
    have e : o ++ (v : Int) :: t' = (o ++ [(v : Int)]) ++ t' := by rw [List.append_assoc]; rfl
    rw [e] at hG ⊢
    unfold srch
    exact lp_B hv hgv (fun v s h => srch_A d (o ++ [v]) s h) (fun s => srch_B d (o ++ [(v : Int)]) t' s (by simpa using ht) hG) _ s (Nat.le_refl _) (by omega)
theorem srch_C : ∀ (d : Nat) (o : List Int) (s : Bs), o.length + d = L.length → Gd L W o → Val L W s → Val L W (srch L W d o s)
  | 0, o, s, hd, hG, hV => by
    unfold srch
    rcases (upd_all o (cz L W 0 o) s).2.2.2 with h | ⟨h1, h⟩
    · rw [h]
      exact fun _ => ⟨hG, hd, rfl⟩
    · rw [h]; exact hV
  | d + 1, o, s, hd, hG, hV => by
    unfold srch
    exact lp_C (fun v s hv hgv h => srch_C d (o ++ [(v : Int)]) s (by rw [List.length_append, List.length_singleton]; omega) (gd_app hG hv hgv) h) _ s (Nat.le_refl _) hV
theorem best_cases (h1 : L.length ≤ 4096) (h2 : W.length ≤ 4096) (hB : shB L W = true) : (∃ o c, bestB L W = (o, c, 0) ∧ Gd L W o ∧ o.length = L.length ∧ cz L W 0 o = c ∧ ∀ F, Gd L W F → F.length = L.length → c ≤ cz L W 0 F) ∨ (bestB L W = ([], 0, 8) ∧ ∀ F, Gd L W F → F.length = L.length → False) := by
  unfold bestB
  rw [if_pos ⟨h1, h2⟩, if_pos hB]
  have hb := fun F (hG : Gd L W F) (hF : F.length = L.length) => srch_B L.length [] F (false, [], 0) hF hG
  have hc := srch_C (L := L) (W := W) L.length [] (false, [], 0) (by simp) gd_nil (fun h => by cases h)
  generalize srch L W L.length [] (false, [], 0) = s at hb hc
  by_cases h : s.1 = true
  · rw [if_pos h]
    obtain ⟨g1, g2, g3⟩ := hc h
    exact .inl ⟨_, _, rfl, g1, g2, g3, fun F hG hF => (hb F hG hF).2⟩
  · rw [if_neg h]
    exact .inr ⟨rfl, fun F hG hF => h (hb F hG hF).1⟩
abbrev Rr := List Int × Int × Int × Int
theorem rost_ev {F : List Int} (hB : shB L W = true) (hl : L.length ≤ 8) (hs : ∀ p ∈ W, p.f4.length ≤ maxLen) (hw : W.length ≤ 5) (hF : F.length = L.length) (hi : In W F) : ∃ r : Rr, Ev (fun k => impl_RosterOf.f k L W F) r ∧ ((r = (F, cz L W 0 F, 0, 0) ∧ Gd L W F) ∨ (r.2.2.1 ≠ 0 ∧ ¬ Gd L W F)) := by
  have hk := ok_of hB
  have h0 := shifts_impl L W (by unfold maxLen; omega) (by omega) hs
  rw [hB] at h0
  have hc := cost_impl hk hi (by omega)
  have key := down_list F (P := fun i => ∃ r : Rr, Ev (fun k => impl_RosterOf.l0 k L W F F (F.length : Int) (i : Int)) r ∧ ((r = (F, cz L W 0 F, 0, 0) ∧ ∀ (j v : Nat), i ≤ j → F[j]? = some (v : Int) → cdv L W (F.take j) v = 0) ∨ (r.2.2.1 ≠ 0 ∧ ∃ (j v : Nat), F[j]? = some (v : Int) ∧ cdv L W (F.take j) v ≠ 0))) ?_ ?_
  · obtain ⟨r, hE, hr⟩ := key
    refine ⟨r, ?_, ?_⟩
    · unfold impl_RosterOf.f impl_Shift.f impl_Worker.f impl_isList_int.f
      simp only [Option.bind_some]
      refine ev_pos (decide_eq_true (by omega)) (ev_pos (decide_eq_true (by omega)) ?_)
      rw [decide_eq_true (show (F.length : Int) ≤ 4096 by omega)]
      refine Ev.step (f := fun k => (impl_ShiftsOK.f k L W).bind fun t301 => (if t301 = true then (if (F.length : Int) = (L.length : Int) then (impl_RosterOf.l0 k L W F F (F.length : Int) 0) else (some (([] : List Int), 0, 3, 0))) else (some (([] : List Int), 0, 1, 0)))) (fun k => by simp only [impl_RosterOf.j0]; rw [if_neg (by simp)]) ?_
      exact ev_bind h0 (ev_pos rfl (ev_pos (by omega) hE))
    · rcases hr with ⟨h1, h2⟩ | ⟨h1, j, v, h2, h3⟩
      · refine .inl ⟨h1, fun i x hx => ?_⟩
        obtain ⟨v, rfl, hv⟩ := hi x (List.mem_of_getElem? hx)
        exact ⟨v, rfl, hv, h2 i v (Nat.zero_le _) hx⟩
      · refine .inr ⟨h1, fun hG => ?_⟩
        obtain ⟨u, e1, _, e3⟩ := hG j (v : Int) h2
        have : u = v := by omega
        subst this
        exact h3 e3
  · refine ⟨(F, cz L W 0 F, 0, 0), Ev.step (f := fun k => (impl_costOf.f k L W F).bind fun t305 => (some (F, t305, 0, 0))) (fun k => ?_) (ev_bind hc (ev_some _)), .inl ⟨rfl, fun j v hj hh => by have := some_lt hh; omega⟩⟩
    simp only [impl_RosterOf.l0, clone_eq (show F.length ≤ 4096 by omega), Option.bind_some]
    rw [if_neg (by omega)]
  · intro i x hx hd ⟨r, hE, hr⟩
    have hil := some_lt hx
    have hrx : rd F (i : Int) = x := getD_some hx
    obtain ⟨v, rfl, hv⟩ := hi x (List.mem_of_getElem? hx)
    have hcd := (cdv_ev (L := L) (W := W) (by omega) hs (o := F.take i) (v := v) (by rw [List.length_take]; omega) hv).1
    have hw2 : Aside0 (wrap64 ((i : Int) + 1) = ((i + 1 : Nat) : Int)) := ⟨wrap_succ hil (by unfold maxLen; omega)⟩
    have hwi : impl_within.f (v : Int) 0 (wrap64 ((W.length : Int) - 1)) = some true := by
      rw [within_eq, w64 (by omega) (by omega)]
      exact congrArg some (decide_eq_true (by omega))
    have st : ∀ k, impl_RosterOf.l0 (k + 1) L W F F (F.length : Int) (i : Int) = (impl_shiftCode.f k L W (F.take i) (v : Int)).bind fun t309 => (if t309 = 0 then (impl_RosterOf.l0 k L W F F (F.length : Int) ((i + 1 : Nat) : Int)) else (some (([] : List Int), 0, t309, (i : Int)))) := fun k => by
      simp only [impl_RosterOf.l0, hrx, hwi, Option.bind_some, hw2.out, Int.toNat_natCast]
      rw [if_pos (ilt hil), if_pos (ige _), if_pos (ilt hil), if_pos trivial, if_pos (by omega)]
    by_cases h0 : cdv L W (F.take i) v = 0
    · refine ⟨r, Ev.step st (ev_bind hcd (ev_pos h0 hE)), ?_⟩
      rcases hr with ⟨h1, h2⟩ | h
      · refine .inl ⟨h1, fun j u hj hh => ?_⟩
        by_cases e : j = i
        · subst e
          rw [hx] at hh
          have : u = v := by have := Option.some.inj hh; omega
          rw [this]; exact h0
        · exact h2 j u (by omega) hh
      · exact .inr h
    · exact ⟨_, Ev.step st (ev_bind hcd (ev_neg h0 (ev_some _))), .inr ⟨h0, i, v, hx, h0⟩⟩
theorem rd_more {m : Wo} {v : Nat} (hv : v < W.length) : rd_T72 (W ++ [m]) (v : Int) = rd_T72 W (v : Int) := by
  have h1 : rd_T72 W (v : Int) = W[v] := getD_some (List.getElem?_eq_getElem hv)
  have h2 : rd_T72 (W ++ [m]) (v : Int) = W[v] := getD_some (by rw [List.getElem?_append_left hv, List.getElem?_eq_getElem hv])
  rw [h1, h2]
theorem cdv_more {m : Wo} {o : List Int} {v : Nat} (hv : v < W.length) : cdv L (W ++ [m]) o v = cdv L W o v := by
  have e : (fun k => impl_shiftCode.f k L (W ++ [m]) o (v : Int)) = (fun k => impl_shiftCode.f k L W o (v : Int)) := funext fun k => by
    unfold impl_shiftCode.f
    rw [rd_more hv, if_pos (show (v : Int) < ((W ++ [m]).length : Int) by rw [List.length_append, List.length_singleton]; omega), if_pos (show (v : Int) < (W.length : Int) by omega)]
  unfold cdv
  rw [e]
theorem cz_more {m : Wo} : ∀ (o : List Int) (i : Nat), In W o → cz L (W ++ [m]) i o = cz L W i o
  | [], _, _ => rfl
  | x :: o, i, h => by
    obtain ⟨v, rfl, hv⟩ := h x (by simp)
    rw [cz, cz, cz_more o (i + 1) (fun y hy => h y (by simp [hy]))]
    unfold tm
    rw [rd_more hv]
theorem gd_more {m : Wo} {o : List Int} (h : Gd L W o) : Gd L (W ++ [m]) o := fun i x hx => by
  obtain ⟨v, e, hv, hg⟩ := h i x hx
  exact ⟨v, e, by rw [List.length_append]; omega, by rw [cdv_more hv]; exact hg⟩
end
end Go.Proofs.Ytojncbpeeboooaa.ZRoSpY
