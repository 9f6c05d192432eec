/- FnPath: drawn right picks: no drawn order is shorter than the program's way, which is as long as it tells, and as long the other way round; a pick less is no longer.
   For every list of bytes. -/
import Derived.Test.YthjchjnibbapcaaZPathJ
import Derived.Test.YthjchjnibbapcaaZMetJ
import Derived.Test.YthjchjnibbapcaaZPathMJ
import Derived.Test.YthjchjnibbapcaaZPicksJ
namespace Go.Proofs.Ythjchjnibbapcaa.Pure
open Go.RowKit Go.Proofs.Ythjchjnibbapcaa.J Go.Proofs.Ythjchjnibbapcaa.Lib Go.Proofs.Ythjchjnibbapcaa.ZHalJ Go.Proofs.Ythjchjnibbapcaa.ZPathJ Go.Proofs.Ythjchjnibbapcaa.ZMetJ Go.Proofs.Ythjchjnibbapcaa.ZOrdJ Go.Proofs.Ythjchjnibbapcaa.ZPathMJ Go.Proofs.Ythjchjnibbapcaa.ZDrawJ Go.Proofs.Ythjchjnibbapcaa.ZPicksJ Go.Proofs.YthjchjnibbapcaaW.PrintWords Go.Proofs.YthjchjnibbapcaaW.PrintLast Go.Proofs.YthjchjnibbapcaaW.PrintMore
theorem byt_of {l : List Int} (h : ∀ y0 ∈ l, (Lit.int .u8 y0).wf = true) : Byt l := by
  intro y hy
  have := h y hy
  unfold Lit.wf at this
  rw [Bool.and_eq_true] at this
  exact ⟨of_decide_eq_true this.1, of_decide_eq_true this.2⟩
theorem met {a b c : Int} (h : Hl a b c) : Metr (way a b c) (Sp a b) := ⟨fun _ _ => way_bd h, fun _ _ => way_symm h, fun _ _ _ => way_tri h, sp_zero h⟩
theorem picks_zero' {a b c : Int} {l : List S45} (h : Hl a b c) (hl : ∀ p ∈ l, Sp a b p) (h9 : l.length ≤ 9) : picksB a b c l = 0 := by
  unfold picksB
  rw [if_neg (by omega), if_neg (by omega), if_pos h, if_pos (List.all_eq_true.2 (fun p hp => decide_eq_true (hl p hp)))]
theorem bestB_eq {a b c : Int} {l : List S45} (h : Hl a b c) (hl : ∀ p ∈ l, Sp a b p) (h9 : l.length ≤ 9) : bestB a b c l = (bestO (way a b c) l, best (way a b c) l, 0) := by
  unfold bestB
  rw [if_pos (picks_zero' h hl h9)]
  rfl
theorem length_ev {a b c : Int} {l : List S45} {o : List Int} (h : Hl a b c) (hl : ∀ p ∈ l, Sp a b p) (h9 : l.length ≤ 9) (ho : Ord l.length o) : Ev (fun k => impl_PathLength.f k a b c l o) (ln (way a b c) l ⟨0, 0⟩ o, 0) := by
  have M := met h
  have hlen := ho.len
  have key : Ev (fun k => impl_pathLength.f k a b c l o) (ln (way a b c) l ⟨0, 0⟩ o) := by
    unfold impl_pathLength.f
    have key : ∀ (acc : Int) (s : S45), Sp a b s → 0 ≤ acc ∧ acc ≤ 5000 * ((0 : Nat) : Int) → Ev (fun k => impl_pathLength.l0 k l acc o (o.length : Int) ((0 : Nat) : Int) a b c s.f0 s.f1) (acc + ln (way a b c) l s (o.drop 0)) := by
      refine down_list o (P := fun i => ∀ (acc : Int) (s : S45), Sp a b s → 0 ≤ acc ∧ acc ≤ 5000 * (i : Int) → Ev (fun k => impl_pathLength.l0 k l acc o (o.length : Int) (i : Int) a b c s.f0 s.f1) (acc + ln (way a b c) l s (o.drop i))) ?_ ?_
      · intro acc s hs ha
        have hb := M.bd s ⟨0, 0⟩ hs M.z
        rw [List.drop_length]
        refine ev_succ (fun k => ?_)
        simp only [impl_pathLength.l0]
        rw [if_neg (by omega), between_way (q := ⟨0, 0⟩) h hs M.z, Option.bind_some, w64 (by omega) (by omega)]
        rfl
      · intro i x hx hd ih acc s hs ha
        have hi := some_lt hx
        have hr : rd o (i : Int) = x := getD_some hx
        have hrng := ho.rng x (List.mem_of_getElem? hx)
        have hq := rdok M hl x
        have hb := M.bd s (rd_T45 l x) hs hq
        have hw : wrap64 (acc + way a b c s (rd_T45 l x)) = acc + way a b c s (rd_T45 l x) := w64 (by omega) (by omega)
        refine Ev.step (f := fun k => impl_pathLength.l0 k l (acc + way a b c s (rd_T45 l x)) o (o.length : Int) ((i + 1 : Nat) : Int) a b c (rd_T45 l x).f0 (rd_T45 l x).f1) (fun k => ?_) (ev_eq (ih (acc + way a b c s (rd_T45 l x)) (rd_T45 l x) hq (by push_cast; omega)) ?_)
        · simp only [impl_pathLength.l0, hr]
          rw [if_pos (ilt hi), if_pos (ige _), if_pos (ilt hi), if_pos hrng.1, if_pos hrng.2, between_way h hs hq, Option.bind_some, hw, wrap_succ hi (by unfold maxLen; omega)]
        · rw [hd]
          show _ = acc + (way a b c s (rd_T45 l x) + ln (way a b c) l (rd_T45 l x) (o.drop (i + 1)))
          omega
    have := key 0 ⟨0, 0⟩ M.z (by omega)
    simpa using this
  unfold impl_PathLength.f
  simp only [impl_isList_int.f, Option.bind_some, decide_eq_true_eq]
  refine ev_pos (by omega) (ev_bind (picks_impl a b c l (by unfold maxLen; omega)) ?_)
  rw [picks_zero' h hl h9]
  exact ev_pos rfl (ev_bind (order_impl ho (by omega)) (ev_pos rfl (ev_bind key (ev_some _))))
theorem between_ev {a b c : Int} {p : S45} (h : Hl a b c) (hp : Sp a b p) : impl_Between.f a b c 0 0 p.f0 p.f1 = some (way a b c ⟨0, 0⟩ p, 0) := by
  have hz := sp_zero h
  have e1 : spec_l19Spot.f a b c 0 0 = some true := by rw [spot_sp a b c ⟨0, 0⟩, decide_eq_true hz]
  unfold impl_Between.f
  rw [isHall_eq, has_eq, hall_hl, decide_eq_true h, Option.bind_some, if_pos rfl, e1, Option.bind_some, if_pos rfl, spot_sp, decide_eq_true hp, Option.bind_some, if_pos rfl, between_way (p := ⟨0, 0⟩) h hz hp]
  rfl
theorem FnPath : laws_FnPath.Pure := by
  intro l ⟨_, hb⟩
  refine Ev.rounds ?_
  unfold laws_FnPath.f
  by_cases h0 : (l.length : Int) > 1048576
  · exact ev_pos h0 (ev_some _)
  refine ev_neg h0 ?_
  have hB : Byt l := byt_of hb
  obtain ⟨a, b, c, L, F, hE, hD⟩ := picks_ok hB
  have h := hD.hall
  have hl := hD.right
  have h6 := hD.len
  have M := met h
  have ei := best_impl a b c L (by unfold maxLen; omega)
  have es := best_spec a b c L (by unfold maxLen; omega)
  rw [bestB_eq h hl (by omega)] at ei es
  obtain ⟨ho, hn⟩ := best_ord M hl (by omega)
  have hF := best_le M hl (by omega) hD.ord
  have hr := ln_rev M hl (bestO (way a b c) L)
  have eF := length_ev h hl (by omega) hD.ord
  have eo := length_ev h hl (by omega) ho
  have er := length_ev h hl (by omega) (ord_rev ho)
  rw [hn] at eo
  rw [hr, hn] at er
  generalize ln (way a b c) L ⟨0, 0⟩ F = m at hF eF
  have tail : Ev (fun k => laws_FnPath.j1 k L (best (way a b c) L) false a b c) true := by
    refine Ev.step (f := fun k => if (L.length : Int) = 0 then (some (best (way a b c) L == 0)) else (if 1 ≤ (L.length : Int) then ((impl_BestPath.f k a b c (L.drop 1)).bind fun bt275 => (if 0 < (L.length : Int) then ((impl_Between.f a b c 0 0 ((rd_T45 L 0).f0) ((rd_T45 L 0).f1)).bind fun bt281 => (if bt275.2.2 = 0 then (if bt275.2.1 ≤ best (way a b c) L then (if bt281.2 = 0 then (if best (way a b c) L ≥ (wrap64 (2 * bt281.1)) then (some (decide (best (way a b c) L ≤ (wrap64 (bt275.2.1 + (wrap64 (2 * bt281.1))))))) else (some false)) else (some false)) else (some false)) else (some false))) else (none))) else (none))) (fun k => by simp only [laws_FnPath.j1]; rw [if_neg (by simp)]) ?_
    cases L with
    | nil =>
      refine ev_pos rfl (ev_eq (ev_some _) ?_)
      have e : best (way a b c) [] = way a b c ⟨0, 0⟩ ⟨0, 0⟩ := rfl
      rw [e, way_eq h M.z M.z, if_pos rfl]
      rfl
    | cons p L =>
      have hp := hl p (by simp)
      have hl' : ∀ q ∈ L, Sp a b q := fun q hq => hl q (by simp [hq])
      rw [List.length_cons] at h6
      have hq := best_less M hl (by omega)
      have e2 := best_impl a b c L (by unfold maxLen; omega)
      rw [bestB_eq h hl' (by omega)] at e2
      have hbd := M.bd ⟨0, 0⟩ p M.z hp
      have hsb := sh_bd M hl' (by omega) (full_lt L.length) M.z
      have hbest : 0 ≤ best (way a b c) L ∧ best (way a b c) L ≤ 50000 := hsb
      refine ev_neg (by rw [List.length_cons]; omega) (ev_pos (by rw [List.length_cons]; omega) (ev_bind e2 (ev_pos (by rw [List.length_cons]; omega) ?_)))
      have e3 : rd_T45 (p :: L) 0 = p := rfl
      rw [e3, between_ev h hp]
      simp only [Option.bind_some]
      rw [w64 (x := 2 * way a b c ⟨0, 0⟩ p) (by omega) (by omega), w64 (x := best (way a b c) L + 2 * way a b c ⟨0, 0⟩ p) (by omega) (by omega)]
      refine ev_pos (by simp) (ev_pos hq.1 (ev_pos (by simp) (ev_pos hq.2.1 (ev_eq (ev_some _) (decide_eq_true hq.2.2)))))
  have loop : ∀ j : Nat, j ≤ (bestO (way a b c) L).length → Ev (fun k => laws_FnPath.l0 k L (bestO (way a b c) L) (best (way a b c) L) 0 m 0 (best (way a b c) L) 0 (((bestO (way a b c) L).drop j).reverse) ((j : Int) - 1) a b c) true := by
    intro j
    induction j with
    | zero =>
      intro _
      rw [List.drop_zero]
      refine Ev.step (f := fun k => (impl_PathLength.f k a b c L (bestO (way a b c) L).reverse).bind fun bt264 => ((spec_BestPath.f k a b c L).bind fun bt266 => (if bt264.2 = 0 then (if best (way a b c) L = bt266.2.1 then (if best (way a b c) L > m then (laws_FnPath.j1 k L (best (way a b c) L) true a b c) else (laws_FnPath.j1 k L (best (way a b c) L) (bt264.1 != best (way a b c) L) a b c)) else (laws_FnPath.j1 k L (best (way a b c) L) true a b c)) else (laws_FnPath.j1 k L (best (way a b c) L) true a b c)))) (fun k => by simp only [laws_FnPath.l0]; rw [if_neg (by omega)]; simp only [if_true]) ?_
      refine ev_bind er (ev_bind es (ev_pos (by simp) (ev_pos (by simp) (ev_neg (by omega) ?_))))
      rw [bne_self_eq_false]
      exact tail
    | succ j ih =>
      intro hj
      have hlt : j < (bestO (way a b c) L).length := by omega
      have hlen := ho.len
      have hrd : rd (bestO (way a b c) L) (j : Int) = (bestO (way a b c) L)[j] := getD_some (List.getElem?_eq_getElem hlt)
      have hw : wrap64 ((((j + 1 : Nat) : Int) - 1) - 1) = (j : Int) - 1 := by rw [w64 (by omega) (by omega)]; omega
      refine Ev.step (fun k => ?_) (ih (by omega))
      simp only [laws_FnPath.l0, hw]
      rw [show ((j + 1 : Nat) : Int) - 1 = (j : Int) by omega, if_pos (ige j), if_pos (ige j), if_pos (ilt hlt), if_pos (by rw [List.length_reverse, List.length_drop]; omega), hrd, List.drop_eq_getElem_cons hlt, List.reverse_cons]
  have hlp := loop (bestO (way a b c) L).length (Nat.le_refl _)
  rw [List.drop_length, List.reverse_nil] at hlp
  have hw : wrap64 (((bestO (way a b c) L).length : Int) - 1) = ((bestO (way a b c) L).length : Int) - 1 := by have := ho.len; exact w64 (by omega) (by omega)
  refine ev_bind hE (ev_bind ei (ev_bind eF (ev_bind eo ?_)))
  dsimp only
  rw [hw]
  exact hlp
end Go.Proofs.Ythjchjnibbapcaa.Pure
