/- Sorting: the program's whole run, of lanes and parcels that are right. -/
import Derived.Test.YtakpcpbhlohmiaaZSortIK
namespace Go.Proofs.Ytakpcpbhlohmiaa.ZSortRK
open Go.RowKit Go.Proofs.Ytakpcpbhlohmiaa.K Go.Proofs.Ytakpcpbhlohmiaa.Lib Go.Proofs.Ytakpcpbhlohmiaa.ZSortK Go.Proofs.Ytakpcpbhlohmiaa.ZSortIK Go.Proofs.YtakpcpbhlohmiaaW.PrintWords Go.Proofs.YtakpcpbhlohmiaaW.PrintLast Go.Proofs.YtakpcpbhlohmiaaW.PrintMore

theorem within_eq (a b c : Int) : impl_within.f a b c = some (decide (b ≤ a ∧ a ≤ c)) := by
  unfold impl_within.f
  by_cases h : a ≥ b
  · rw [if_pos h]; simp [h]
  · rw [if_neg h]; simp; omega
theorem from_ev (l : List Int) (lo hi : Int) (hl : l.length ≤ maxLen) : Ev (fun k => impl_areFrom.f k l lo hi) (l.all fun x => decide (lo ≤ x ∧ x ≤ hi)) := by
  unfold impl_areFrom.f
  have hx : Ev (fun k => slices_IndexFunc_at_impl_areFrom_1.f k l lo hi) (fidx (fun x => !decide (lo ≤ x ∧ x ≤ hi)) l 0) := by
    unfold slices_IndexFunc_at_impl_areFrom_1.f
    refine index_ev' l _ (fun k i => slices_IndexFunc_at_impl_areFrom_1.l0 k l (l.length : Int) i lo hi) hl (fun k i x hx => ?_) (fun k => ?_)
    · have := some_lt hx
      have hr : rd l (i : Int) = x := getD_some hx
      simp only [slices_IndexFunc_at_impl_areFrom_1.l0, hr, impl_areFrom_1.f, within_eq, Option.bind_some]
      rw [if_pos (ilt this), if_pos (ige _), if_pos (ilt this)]
    · simp only [slices_IndexFunc_at_impl_areFrom_1.l0]
      rw [if_neg (by omega)]
  have hc : Ev (fun k => slices_ContainsFunc_at_impl_areFrom_1.f k l lo hi) (l.any fun x => !decide (lo ≤ x ∧ x ≤ hi)) := any_of_index hx
  refine ev_bind hc (ev_eq (ev_some _) ?_)
  rw [List.all_eq_not_any_not]
def okL (x : Ln) : Bool := decide (1 ≤ x.f0 ∧ x.f0 ≤ 100) && decide (1 ≤ x.f1 ∧ x.f1 ≤ 100)
theorem bad_eq (x : Ln) : impl_SortRun_1.f x.f0 x.f1 = some (!okL x) := by
  unfold impl_SortRun_1.f okL
  simp only [within_eq, Option.bind_some]
  by_cases h : 1 ≤ x.f0 ∧ x.f0 ≤ 100
  · rw [decide_eq_true h]; simp
  · rw [decide_eq_false h]; simp
theorem bad_ev (L : List Ln) (hl : L.length ≤ maxLen) : Ev (fun k => slices_ContainsFunc_at_impl_SortRun_1.f k L) (L.any fun x => !okL x) := by
  have hx : Ev (fun k => slices_IndexFunc_at_impl_SortRun_1.f k L) (fidx (fun x => !okL x) L 0) := by
    unfold slices_IndexFunc_at_impl_SortRun_1.f
    refine index_ev' L _ (fun k i => slices_IndexFunc_at_impl_SortRun_1.l0 k L (L.length : Int) i) hl (fun k i x hx => ?_) (fun k => ?_)
    · have := some_lt hx
      have hr : rd_T32 L (i : Int) = x := getD_some hx
      simp only [slices_IndexFunc_at_impl_SortRun_1.l0, hr, bad_eq, Option.bind_some]
      rw [if_pos (ilt this), if_pos (ige _), if_pos (ilt this)]
    · simp only [slices_IndexFunc_at_impl_SortRun_1.l0]
      rw [if_neg (by omega)]
  exact any_of_index hx
/-! ### the first belt -/
def belt0 (n : Nat) : List Int := (List.range n).map (fun i : Nat => (i : Int))
theorem rd_rep (n : Nat) (i : Int) : rd (List.replicate n 0) i = 0 := by
  show (List.replicate n (0 : Int)).getD i.toNat 0 = 0
  rw [List.getD_eq_getElem?_getD, List.getElem?_replicate]
  split <;> rfl
theorem mu_rep (n : Nat) : ∀ b, mu (List.replicate n 0) b = 4 * b.length
  | [] => rfl
  | i :: b => by simp only [mu, rd_rep, mu_rep n b, List.length_cons]; omega
theorem neg_rep : ∀ n, neg (List.replicate n (-1)) = n
  | 0 => rfl
  | n + 1 => by rw [List.replicate_succ, neg, neg_rep n, if_pos (by omega)]; omega
theorem inv_0 {L : List Ln} {P : List Int} (V : Valid L P) : Inv L P (belt0 P.length) (List.replicate L.length 0) (List.replicate P.length 0) (List.replicate P.length (-1)) [] 0 0 := by
  have hb : (belt0 P.length).length = P.length := by simp [belt0]
  have ho : ∀ o ∈ List.replicate P.length (-1 : Int), o = -1 := fun o h => List.eq_of_mem_replicate h
  have p100 := V.p100
  refine ⟨by simp, by simp, by simp, fun i hi => ?_, ?_, by rw [neg_rep, hb]; simp, by rw [hb]; omega, by omega, by omega, fun o h => .inl (ho o h), fun i j o hi _ h0 => ?_, fun l x hx q => ?_, fun l x hx hm => ?_, by rw [mu_rep, hb]; omega⟩
  · obtain ⟨v, hv, rfl⟩ := List.mem_map.1 hi
    have hv' := List.mem_range.1 hv
    exact ⟨v, 0, rfl, by rw [List.getElem?_replicate, if_pos hv'], by rw [List.getElem?_replicate, if_pos hv'], by omega, by omega⟩
  · exact List.pairwise_map.2 (List.nodup_range.imp (fun h e => h (by omega)))
  · have := ho o (List.mem_of_getElem? hi); omega
  · have hf := (V.ln x (List.mem_of_getElem? hx)).1
    rw [cnt_zero P _ (fun o h h0 => by have := ho o h; omega)]
    exact Int.le_trans (by omega) hf
  · exact absurd (Int.zero_emod _) hm
/-! ### from tick to tick, to the end -/
theorem belt_ev {L : List Ln} {P : List Int} (V : Valid L P) : ∀ (N : Nat) (belt held rounds out rej : List Int) (t rec : Int), Inv L P belt held rounds out rej t rec → (400 - t).toNat ≤ N →
    ∃ (held' rounds' out' rej' : List Int) (t' rec' : Int), Ev (fun k => impl_SortRun.l1 k L P belt held rounds t rec out rej) (t', rec', out', rej', 0) ∧ Inv L P [] held' rounds' out' rej' t' rec' := by
  intro N
  induction N with
  | zero =>
    intro belt held rounds out rej t rec I hN
    cases belt with
    | nil => exact ⟨held, rounds, out, rej, t, rec, ev_succ (fun k => by simp only [impl_SortRun.l1]; rw [if_neg (by simp)]), I⟩
    | cons i rest =>
      obtain ⟨v, c, rfl, ho, hr, hc0, hc1⟩ := I.bl i (by simp)
      have := I.mt
      simp only [mu] at this
      rw [rd_set hr] at this
      omega
  | succ N ih =>
    intro belt held rounds out rej t rec I hN
    cases belt with
    | nil => exact ⟨held, rounds, out, rej, t, rec, ev_succ (fun k => by simp only [impl_SortRun.l1]; rw [if_neg (by simp)]), I⟩
    | cons i rest =>
      obtain ⟨v, c, rfl, ho, hr, hc0, hc1⟩ := I.bl i (by simp)
      have hmt := I.mt
      simp only [mu] at hmt
      rw [rd_set hr] at hmt
      have hng := I.ng
      have hnl := neg_le out
      have h3 := I.h3
      have p100 := V.p100
      have n9 := V.n9
      have htk := I.tk
      have hrc := I.rc
      have ht0 := I.t0
      simp only [List.length_cons] at hng htk
      have hvl : v < P.length := by have := some_lt ho; omega
      have hP0 : P[v]? = some (P[v]) := List.getElem?_eq_getElem hvl
      obtain ⟨lane, e1, hl⟩ := V.pl P[v] (List.getElem_mem hvl)
      rw [e1] at hP0
      have hx : L[lane]? = some (L[lane]) := List.getElem?_eq_getElem hl
      generalize L[lane] = x at hx
      have hcl := cnt_le x.f1 lane (t / x.f1) P out
      have hlen : (rst t L held).length = L.length := by rw [rst_len]; exact I.h1
      have hE : ∀ y ∈ L, 1 ≤ y.f1 := fun y hy => (V.ln y hy).2.2.1
      have head : ∀ r, Ev (fun k => impl_SortRun.l2 k L P ((v : Int) :: rest) (rst t L held) rounds L (L.length : Int) (L.length : Int) t rec out rej) r → Ev (fun k => impl_SortRun.l1 k L P ((v : Int) :: rest) held rounds t rec out rej) r := by
        intro r h
        refine Ev.step (f := fun k => impl_SortRun.l2 k L P ((v : Int) :: rest) held rounds L (L.length : Int) ((0 : Nat) : Int) t rec out rej) (fun k => ?_) (reset_ev n9 hE held I.h1 h)
        simp only [impl_SortRun.l1]
        rw [if_pos (by simp only [List.length_cons]; omega)]; rfl
      by_cases a : (cnt x.f1 lane (t / x.f1) P out : Int) < x.f0
      · obtain ⟨h', r', o', j', t', c', hEv, hI⟩ := ih _ _ _ _ _ _ _ (inv_A V I hP0 hx a) (by omega)
        exact ⟨h', r', o', j', t', c', head _ (tick_ev hP0 hx hlen I.h2 I.h3 (by omega) (by omega) ⟨ht0, by omega⟩ ⟨hrc, by omega⟩ (held_now V I hx) ⟨by omega, by omega⟩ hr ⟨hc0, hc1⟩ (fun _ => hEv) (fun b _ => absurd a b) (fun b _ => absurd a b)), hI⟩
      · by_cases b : c = 3
        · obtain ⟨h', r', o', j', t', c', hEv, hI⟩ := ih _ _ _ _ _ _ _ (inv_B V I) (by omega)
          exact ⟨h', r', o', j', t', c', head _ (tick_ev hP0 hx hlen I.h2 I.h3 (by omega) (by omega) ⟨ht0, by omega⟩ ⟨hrc, by omega⟩ (held_now V I hx) ⟨by omega, by omega⟩ hr ⟨hc0, hc1⟩ (fun b' => absurd b' a) (fun _ _ => hEv) (fun _ d => absurd b d)), hI⟩
        · obtain ⟨h', r', o', j', t', c', hEv, hI⟩ := ih _ _ _ _ _ _ _ (inv_C V I hr b) (by omega)
          exact ⟨h', r', o', j', t', c', head _ (tick_ev hP0 hx hlen I.h2 I.h3 (by omega) (by omega) ⟨ht0, by omega⟩ ⟨hrc, by omega⟩ (held_now V I hx) ⟨by omega, by omega⟩ hr ⟨hc0, hc1⟩ (fun b' => absurd b' a) (fun _ d => absurd d b) (fun _ _ => hEv)), hI⟩
theorem fill_ev {L : List Ln} {P held rounds out : List Int} {r : Int × Int × List Int × List Int × Int} (hP : P.length ≤ 4096) (h : Ev (fun k => impl_SortRun.l1 k L P (belt0 P.length) held rounds 0 0 out []) r) :
    Ev (fun k => impl_SortRun.l0 k L P [] held rounds (P.length : Int) ((0 : Nat) : Int) 0 0 out) r := by
  have := down_list P (P := fun i => Ev (fun k => impl_SortRun.l0 k L P (belt0 i) held rounds (P.length : Int) (i : Int) 0 0 out) r) ?_ ?_
  · exact this
  · refine Ev.step (fun k => ?_) h
    simp only [impl_SortRun.l0]
    rw [if_neg (by omega)]
  · intro i x hx hd ih
    have hi := some_lt hx
    refine Ev.step (f := fun k => impl_SortRun.l0 k L P (belt0 i ++ [(i : Int)]) held rounds (P.length : Int) (wrap64 ((i : Int) + 1)) 0 0 out) (fun k => ?_) ?_
    · simp only [impl_SortRun.l0]
      rw [if_pos (ilt hi), if_pos (by simp [belt0]; omega)]
    · rw [wrap_succ hi (by unfold maxLen; omega)]
      have : belt0 i ++ [(i : Int)] = belt0 (i + 1) := by simp [belt0, List.range_succ]
      rw [this]
      exact ih
theorem pl_of {L : List Ln} {P : List Int} (h : ∀ p ∈ P, 0 ≤ p ∧ p ≤ wrap64 ((L.length : Int) - 1)) (hL : L.length ≤ 9) : ∀ p ∈ P, ∃ l : Nat, p = (l : Int) ∧ l < L.length := by
  intro p hp
  obtain ⟨h0, h1⟩ := h p hp
  rw [w64 (by omega) (by omega)] at h1
  obtain ⟨l, rfl⟩ := Int.eq_ofNat_of_zero_le h0
  exact ⟨l, rfl, by omega⟩
theorem sortRun_ev {L : List Ln} {P : List Int} (V : Valid L P) : ∃ (held rounds out rej : List Int) (t rec : Int), Ev (fun k => impl_SortRun.f k L P) (t, rec, out, rej, 0) ∧ Inv L P [] held rounds out rej t rec := by
  obtain ⟨held, rounds, out, rej, t, rec, hE, hI⟩ := belt_ev V 400 _ _ _ _ _ _ _ (inv_0 V) (by omega)
  refine ⟨held, rounds, out, rej, t, rec, ?_, hI⟩
  have n9 := V.n9
  have p100 := V.p100
  unfold impl_SortRun.f impl_Lane_21.f impl_isList_int.f
  simp only [Option.bind_some]
  refine ev_pos (decide_eq_true (by omega)) ?_
  rw [decide_eq_true (show (P.length : Int) ≤ 4096 by omega)]
  have hb : (L.any fun x => !okL x) = false := by
    rw [List.any_eq_false]
    intro x hx
    have := V.ln x hx
    unfold okL
    rw [decide_eq_true (show 1 ≤ x.f0 ∧ x.f0 ≤ 100 by omega), decide_eq_true (show 1 ≤ x.f1 ∧ x.f1 ≤ 100 by omega)]
    simp
  have hf : (P.all fun p => decide (0 ≤ p ∧ p ≤ wrap64 ((L.length : Int) - 1))) = true := by
    rw [List.all_eq_true]
    intro p hp
    obtain ⟨l, rfl, hl⟩ := V.pl p hp
    rw [w64 (by omega) (by omega)]
    exact decide_eq_true (by omega)
  have e1 := ev_eq (bad_ev L (by unfold maxLen; omega)) hb
  have e2 := ev_eq (from_ev P 0 (wrap64 ((L.length : Int) - 1)) (by unfold maxLen; omega)) hf
  refine Ev.step (f := fun k => impl_SortRun.j1 k L P false) (fun k => ?_) ?_
  · simp only [impl_SortRun.j0]
    rw [if_neg (by simp), if_neg (by omega), decide_eq_false (by omega)]
  · refine Ev.step (f := fun k => (slices_ContainsFunc_at_impl_SortRun_1.f k L).bind fun t164 => if t164 = true then some (0, 0, ([] : List Int), ([] : List Int), 1) else (impl_areFrom.f k P 0 (wrap64 ((L.length : Int) - 1))).bind fun t165 => if t165 = true then impl_SortRun.l0 k L P [] (List.replicate L.length 0) (List.replicate P.length 0) (P.length : Int) 0 0 0 (List.replicate P.length (-1)) else some (0, 0, ([] : List Int), ([] : List Int), 5)) (fun k => ?_) ?_
    · simp only [impl_SortRun.j1, slices_Repeat_int_int.f, Int.toNat_natCast]
      rw [if_neg (by simp), if_pos (show ([(-1 : Int)].length = 1 ∧ (0 : Int) ≤ (P.length : Int) ∧ (P.length : Int) ≤ 1048576) from ⟨rfl, by omega, by omega⟩)]
      simp only [Option.bind_some, if_pos (ige L.length), if_pos (ige P.length), if_pos (show L.length ≤ 35184372088832 by omega), if_pos (show P.length ≤ 35184372088832 by omega)]
      rfl
    · refine ev_bind e1 (ev_neg (by simp) (ev_bind e2 (ev_pos rfl ?_)))
      exact fill_ev (by omega) hE
end Go.Proofs.Ytakpcpbhlohmiaa.ZSortRK
