/- FnRoster: of shifts and workers that are drawn, no drawn list without a code costs less than the program's roster, which costs what it tells; a worker more makes it no dearer.
   For every code of bytes that is no longer than the bound. -/
import Derived.Test.YtojncbpeeboooaaZRoSpY
import Derived.Test.YtojncbpeeboooaaZShDrY
namespace Go.Proofs.Ytojncbpeeboooaa.Pure
open Go.RowKit Go.Proofs.Ytojncbpeeboooaa.Y Go.Proofs.Ytojncbpeeboooaa.Lib Go.Proofs.Ytojncbpeeboooaa.ZNameY Go.Proofs.Ytojncbpeeboooaa.ZShiftsY Go.Proofs.Ytojncbpeeboooaa.ZRostCY Go.Proofs.Ytojncbpeeboooaa.ZBestRoY Go.Proofs.Ytojncbpeeboooaa.ZRoSpY Go.Proofs.Ytojncbpeeboooaa.ZDrawY Go.Proofs.Ytojncbpeeboooaa.ZShDrY Go.Proofs.YtojncbpeeboooaaW.PrintWords Go.Proofs.YtojncbpeeboooaaW.PrintLast Go.Proofs.YtojncbpeeboooaaW.PrintMore
theorem byt_of {l : List Int} (h : ∀ y0 ∈ l, (Lit.int .u8 y0).wf = true) : Byt l := by
  intro y hy
  have := h y hy
  unfold Lit.wf at this
  rw [Bool.and_eq_true] at this
  exact ⟨of_decide_eq_true this.1, of_decide_eq_true this.2⟩
theorem FnRoster : laws_FnRoster.Pure := by
  intro l0 ⟨_, hb⟩
  refine Ev.rounds ?_
  unfold laws_FnRoster.f
  by_cases c0 : (l0.length : Int) > 1048576
  · exact ev_pos c0 (ev_some _)
  refine ev_neg c0 ?_
  obtain ⟨L, W, F, hE, hD⟩ := shifts_ok (byt_of hb)
  have hB := sh_all hD
  have hB' := sh_more hD
  have hl5 := hD.len
  have hw4 := hD.wo.len
  have hs : ∀ p ∈ W, p.f4.length ≤ maxLen := fun p hp => by have := (hD.wo.each p hp).2.2; unfold maxLen; omega
  have hs' : ∀ p ∈ W ++ [mo], p.f4.length ≤ maxLen := fun p hp => by
    rcases List.mem_append.1 hp with h | h
    · exact hs p h
    · obtain rfl := List.mem_singleton.1 h
      show 1 ≤ maxLen; unfold maxLen; omega
  have hw5 : (W ++ [mo]).length ≤ 5 := by rw [List.length_append, List.length_singleton]; omega
  have ei := best_impl L W (by omega) (by omega) hs
  have es := best_spec L W (by omega) (by omega) hs
  have em := best_impl L (W ++ [mo]) (by omega) (by omega) hs'
  have eo := shifts_impl L W (by unfold maxLen; omega) (by omega) hs
  rw [hB] at eo
  obtain ⟨r, er, hr⟩ := rost_ev (F := F) hB (by omega) hs (by omega) hD.fl hD.fr
  refine ev_bind hE (ev_bind ei (ev_bind er (ev_bind eo (ev_pos rfl ?_))))
  rcases best_cases (by omega) (by omega) hB with ⟨o, c, e, g1, g2, g3, g4⟩ | ⟨e, g⟩
  · rw [e]
    obtain ⟨q, eq, hq⟩ := rost_ev (F := o) hB (by omega) hs (by omega) g2 (gd_in g1)
    have hq' : q = (o, c, 0, 0) := by
      rcases hq with ⟨h, _⟩ | ⟨_, h⟩
      · rw [h, g3]
      · exact absurd g1 h
    rw [hq'] at eq
    have mor : Ev (fun k => (impl_BestRoster.f k L (W ++ [mo])).bind fun bt418 => (if bt418.2.2 = 0 then (some (decide (bt418.2.1 ≤ c))) else (some false))) true := by
      rcases best_cases (by omega) (by omega) hB' with ⟨o', c', e', _, _, _, k4⟩ | ⟨_, k⟩
      · rw [e'] at em
        have hle := k4 o (gd_more g1) g2
        rw [cz_more o 0 (gd_in g1), g3] at hle
        exact ev_bind em (ev_pos rfl (ev_eq (ev_some _) (decide_eq_true hle)))
      · exact (k o (gd_more g1) g2).elim
    have fin : ∀ (x9 : Int) (y1 : List Int) (y2 : Int), (x9 = 0 → c ≤ y2) → Ev (fun k => laws_FnRoster.j0 k L W 0 x9 false o c y1 y2) true := fun x9 y1 y2 hy => by
      refine Ev.step (f := fun k => (impl_RosterOf.f k L W o).bind fun bt399 => (if bt399.2.2.1 = 0 then (if bt399.2.1 = c then (if x9 = 0 then (if y2 < c then (some false) else ((impl_BestRoster.f k L (W ++ [mo])).bind fun bt418 => (if bt418.2.2 = 0 then (some (decide (bt418.2.1 ≤ c))) else (some false)))) else ((impl_BestRoster.f k L (W ++ [mo])).bind fun bt418 => (if bt418.2.2 = 0 then (some (decide (bt418.2.1 ≤ c))) else (some false)))) else (some false)) else (some false))) (fun k => ?_) (ev_bind eq (ev_pos rfl (ev_pos rfl ?_)))
      · simp only [laws_FnRoster.j0, Option.bind_some, List.length_nil, Nat.zero_add, List.nil_append]
        rw [if_neg (by simp), if_pos trivial]
        simp only [if_pos (show W.length < 2199023255552 by omega)]
        rfl
      · by_cases h : x9 = 0
        · exact ev_pos h (ev_neg (by have := hy h; omega) mor)
        · exact ev_neg h mor
    rcases hr with ⟨h, hG⟩ | ⟨h, _⟩
    · rw [h]
      refine ev_pos rfl ?_
      exact fin 0 _ _ (fun _ => g4 F hG hD.fl)
    · exact ev_neg h (fin _ _ _ (fun h' => absurd h' h))
  · rw [e]
    rw [e] at es
    have fin : ∀ (x9 : Int) (y1 : List Int) (y2 : Int), Ev (fun k => laws_FnRoster.j0 k L W 8 x9 false [] 0 y1 y2) true := fun x9 y1 y2 => by
      refine Ev.step (f := fun k => (spec_BestRoster.f k L W).bind fun bt393 => (some ((8 : Int) == bt393.2.2))) (fun k => ?_) (ev_bind es (ev_some _))
      simp only [laws_FnRoster.j0]
      rw [if_neg (by simp), if_neg (by decide)]
    rcases hr with ⟨_, hG⟩ | ⟨h, _⟩
    · exact (g F hG hD.fl).elim
    · exact ev_neg h (fin _ _ _)
end Go.Proofs.Ytojncbpeeboooaa.Pure
