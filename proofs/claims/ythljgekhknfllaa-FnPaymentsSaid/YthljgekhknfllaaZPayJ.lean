/- Payments: what an act, and a list of acts, come to, by the program and by the reference. -/
import Derived.Test.YthljgekhknfllaaZNamJ
namespace Go.Proofs.Ythljgekhknfllaa.ZPayJ
open Go.RowKit Go.Proofs.Ythljgekhknfllaa.J Go.Proofs.Ythljgekhknfllaa.Lib Go.Proofs.Ythljgekhknfllaa.ZNamJ Go.Proofs.YthljgekhknfllaaW.PrintWords Go.Proofs.YthljgekhknfllaaW.PrintLast Go.Proofs.YthljgekhknfllaaW.PrintMore

abbrev P := S31
abbrev Ac := S33
def findP (l : List P) (id : ByteArray) : Int := fidx (fun p => eqS p.f0 id) l 0
theorem fidx_bd {α : Type} (q : α → Bool) : ∀ (l : List α) (i : Int), 0 ≤ i → (fidx q l i = -1 ∨ i ≤ fidx q l i) ∧ fidx q l i < i + (l.length : Int)
  | [], i, h => by unfold fidx; exact ⟨.inl rfl, by simp; omega⟩
  | x :: l, i, h => by
    unfold fidx
    have := fidx_bd q l (i + 1) (by omega)
    rw [List.length_cons]
    split
    · exact ⟨.inr (Int.le_refl _), by omega⟩
    · exact ⟨by rcases this.1 with h | h <;> omega, by omega⟩
theorem find_bd (l : List P) (id : ByteArray) : (findP l id = -1 ∨ 0 ≤ findP l id) ∧ findP l id < (l.length : Int) := by
  have := fidx_bd (fun p : P => eqS p.f0 id) l 0 (by omega)
  unfold findP
  exact ⟨this.1, by omega⟩
theorem find_spec (l : List P) (id : ByteArray) (hl : l.length ≤ maxLen) : Ev (fun k => spec_l11Find.f k l id) (findP l id) := by
  unfold spec_l11Find.f
  refine index_ev' l _ (fun k i => spec_l11Find.l0 k l id i) hl (fun k i x hx => ?_) (fun k => ?_)
  · have := some_lt hx
    have hr : rd_T31 l (i : Int) = x := getD_some hx
    simp only [spec_l11Find.l0, hr, eqS, decide_eq_true_eq]
    rw [if_pos (ilt this), if_pos (ige _)]
  · simp only [spec_l11Find.l0]
    rw [if_neg (by omega)]
theorem beq_eqS (a b : ByteArray) : (a.toList == b.toList) = eqS a b := by
  unfold eqS
  by_cases h : a.toList = b.toList
  · rw [h, decide_eq_true rfl]; simp
  · rw [decide_eq_false h]; simpa using h
theorem find_impl (l : List P) (k0 : Int) (id : ByteArray) (a0 : Int) (hl : l.length ≤ maxLen) : Ev (fun k => slices_IndexFunc_at_impl_PayRun_1.f k l k0 id a0) (findP l id) := by
  unfold slices_IndexFunc_at_impl_PayRun_1.f
  refine index_ev' l _ (fun k i => slices_IndexFunc_at_impl_PayRun_1.l0 k l (l.length : Int) i k0 id a0) hl (fun k i x hx => ?_) (fun k => ?_)
  · have := some_lt hx
    have hr : rd_T31 l (i : Int) = x := getD_some hx
    simp only [slices_IndexFunc_at_impl_PayRun_1.l0, hr, impl_PayRun_1.f, beq_eqS, Option.bind_some]
    rw [if_pos (ilt this), if_pos (ige _), if_pos (ilt this)]
  · simp only [slices_IndexFunc_at_impl_PayRun_1.l0]
    rw [if_neg (by omega)]
theorem has_impl (l : List P) (k0 : Int) (id : ByteArray) (a0 : Int) (hl : l.length ≤ maxLen) : Ev (fun k => slices_ContainsFunc_at_impl_authorise_1.f k l k0 id a0) (decide (findP l id ≥ 0)) := by
  have h : Ev (fun k => slices_IndexFunc_at_impl_authorise_1.f k l k0 id a0) (findP l id) := by
    unfold slices_IndexFunc_at_impl_authorise_1.f
    refine index_ev' l _ (fun k i => slices_IndexFunc_at_impl_authorise_1.l0 k l (l.length : Int) i k0 id a0) hl (fun k i x hx => ?_) (fun k => ?_)
    · have := some_lt hx
      have hr : rd_T31 l (i : Int) = x := getD_some hx
      simp only [slices_IndexFunc_at_impl_authorise_1.l0, hr, impl_authorise_1.f, beq_eqS, Option.bind_some]
      rw [if_pos (ilt this), if_pos (ige _), if_pos (ilt this)]
    · simp only [slices_IndexFunc_at_impl_authorise_1.l0]
      rw [if_neg (by omega)]
  exact ev_bind h (ev_some _)
def doB (l : List P) (k : Int) (x : Ac) : List P × Int :=
  if (decide (x.f0 = 4) || (rd_T31 l k).f4) = false then (l, 12)
  else if x.f0 = 3 then (l.set k.toNat ⟨(rd_T31 l k).f0, (rd_T31 l k).f1, (rd_T31 l k).f2, (rd_T31 l k).f3, false⟩, 0)
  else if x.f2 < 1 then (l, 5)
  else if x.f0 = 4 then (if x.f2 > wrap64 ((rd_T31 l k).f2 - (rd_T31 l k).f3) then (l, 19) else (l.set k.toNat ⟨(rd_T31 l k).f0, (rd_T31 l k).f1, (rd_T31 l k).f2, wrap64 ((rd_T31 l k).f3 + x.f2), (rd_T31 l k).f4⟩, 0))
  else if x.f2 > wrap64 ((rd_T31 l k).f1 - (rd_T31 l k).f2) then (l, 19)
  else (l.set k.toNat ⟨(rd_T31 l k).f0, (rd_T31 l k).f1, wrap64 ((rd_T31 l k).f2 + x.f2), (rd_T31 l k).f3, decide (wrap64 ((rd_T31 l k).f2 + x.f2) < (rd_T31 l k).f1)⟩, 0)
theorem do_impl {l : List P} {k : Int} (x : Ac) (h0 : 0 ≤ k) (h1 : k < (l.length : Int)) : impl_Payment_do.f l k x.f0 x.f1 x.f2 = some ((doB l k x).2, (doB l k x).1) := by
  unfold impl_Payment_do.f doB
  rw [if_pos ⟨h0, h1⟩]
  split
  · rfl
  · split
    · rfl
    · split
      · rfl
      · split
        · split <;> rfl
        · split <;> rfl
noncomputable def actB (l : List P) (x : Ac) : List P × Int :=
  if 1 ≤ x.f0 ∧ x.f0 ≤ 4 then
    if x.f0 = 1 then
      if nameB x.f1 = true then
        if findP l x.f1 ≥ 0 then (l, 7)
        else if 1 ≤ x.f2 ∧ x.f2 ≤ 1000000000 then (if (l.length : Int) = 60 then (l, 14) else (l ++ [⟨x.f1, x.f2, 0, 0, true⟩], 0)) else (l, 5)
      else (l, 6)
    else if findP l x.f1 < 0 then (l, 8)
    else doB l (findP l x.f1) x
  else (l, 13)
theorem ev_if {α : Type} {c : Prop} [Decidable c] {f g : Nat → Option α} {a b : α} (h1 : c → Ev f a) (h2 : ¬ c → Ev g b) : Ev (fun n => if c then f n else g n) (if c then a else b) := by
  by_cases h : c
  · exact ev_eq (ev_pos h (h1 h)) (if_pos h).symm
  · exact ev_eq (ev_neg h (h2 h)) (if_neg h).symm
theorem ev_ifd {α : Type} {c : Prop} [Decidable c] {f g : Nat → Option α} {a b : α} (h1 : c → Ev f a) (h2 : ¬ c → Ev g b) : Ev (fun n => if decide c = true then f n else g n) (if c then a else b) := by
  by_cases h : c
  · exact ev_eq (ev_pos (decide_eq_true h) (h1 h)) (if_pos h).symm
  · exact ev_eq (ev_neg (by rw [decide_eq_false h]; decide) (h2 h)) (if_neg h).symm
theorem act_spec (l : List P) (x : Ac) (hl : l.length ≤ 1000000) : Ev (fun k => spec_l11Act.f k l x.f0 x.f1 x.f2) (actB l x) := by
  have hm : l.length ≤ maxLen := by unfold maxLen; omega
  unfold spec_l11Act.f actB
  simp only [l01In_eq, Option.bind_some]
  refine ev_ifd (fun h1 => ev_bind (find_spec l x.f1 hm) ?_) (fun _ => ev_some _)
  refine ev_if (fun k1 => ev_bind (name_spec x.f1) (ev_if (fun n1 => ev_if (fun _ => ev_some _) (fun f1 => ev_ifd (fun a1 => ev_if (fun _ => ev_some _) (fun l1 => ev_pos (by omega) (ev_some _))) (fun _ => ev_some _))) (fun _ => ev_some _))) (fun k1 => ?_)
  refine ev_if (fun _ => ev_some _) (fun f1 => ?_)
  obtain ⟨_, hb⟩ := find_bd l x.f1
  generalize findP l x.f1 = j at f1 hb
  refine ev_pos (by omega) (ev_pos hb ?_)
  have hjl : j.toNat < l.length := by omega
  have d4 : x.f0 ≠ 4 → decide (x.f0 = 4) = false := fun h => decide_eq_false h
  by_cases k2 : x.f0 = 2
  · refine ev_pos k2 ?_
    by_cases o1 : (rd_T31 l j).f4 = true
    · refine ev_pos o1 ?_
      by_cases a1 : x.f2 < 1
      · exact ev_eq (ev_pos a1 (ev_some _)) (by unfold doB; rw [d4 (by omega), o1, if_neg (by decide), if_neg (by omega), if_pos a1])
      · refine ev_neg a1 ?_
        by_cases c1 : x.f2 > wrap64 ((rd_T31 l j).f1 - (rd_T31 l j).f2)
        · exact ev_eq (ev_pos c1 (ev_some _)) (by unfold doB; rw [d4 (by omega), o1, if_neg (by decide), if_neg (by omega), if_neg a1, if_neg (by omega), if_pos c1])
        · refine ev_neg c1 ?_
          have hrd : ∀ y : P, rd_T31 (l.set j.toNat y) j = y := fun y => by
            show (l.set j.toNat y).getD j.toNat _ = y
            rw [List.getD_eq_getElem?_getD, List.getElem?_eq_getElem (by rw [List.length_set]; exact hjl), List.getElem_set_self]; rfl
          simp only [hrd, List.set_set]
          exact ev_eq (ev_some _) (by unfold doB; rw [d4 (by omega), o1, if_neg (by decide), if_neg (by omega), if_neg a1, if_neg (by omega), if_neg c1])
    · have o2 := Bool.eq_false_iff.2 o1
      exact ev_eq (ev_neg o1 (ev_some _)) (by unfold doB; rw [d4 (by omega), o2, if_pos (by rfl)])
  · refine ev_neg k2 ?_
    by_cases k3 : x.f0 = 3
    · refine ev_pos k3 ?_
      by_cases o1 : (rd_T31 l j).f4 = true
      · exact ev_eq (ev_pos o1 (ev_some _)) (by unfold doB; rw [d4 (by omega), o1, if_neg (by decide), if_pos k3])
      · have o2 := Bool.eq_false_iff.2 o1
        exact ev_eq (ev_neg o1 (ev_some _)) (by unfold doB; rw [d4 (by omega), o2, if_pos (by rfl)])
    · have k4 : x.f0 = 4 := by omega
      refine ev_neg k3 ?_
      by_cases a1 : x.f2 < 1
      · exact ev_eq (ev_pos a1 (ev_some _)) (by unfold doB; rw [decide_eq_true k4, Bool.true_or, if_neg (by decide), if_neg k3, if_pos a1])
      · refine ev_neg a1 ?_
        by_cases c1 : x.f2 > wrap64 ((rd_T31 l j).f2 - (rd_T31 l j).f3)
        · exact ev_eq (ev_pos c1 (ev_some _)) (by unfold doB; rw [decide_eq_true k4, Bool.true_or, if_neg (by decide), if_neg k3, if_neg a1, if_pos k4, if_pos c1])
        · exact ev_eq (ev_neg c1 (ev_some _)) (by unfold doB; rw [decide_eq_true k4, Bool.true_or, if_neg (by decide), if_neg k3, if_neg a1, if_pos k4, if_neg c1])
theorem act_len (l : List P) (x : Ac) : (actB l x).1.length ≤ l.length + 1 := by
  unfold actB doB
  split
  · split
    · split
      · split
        · show l.length ≤ _; omega
        · split
          · split
            · show l.length ≤ _; omega
            · show (l ++ [_]).length ≤ _; simp
          · show l.length ≤ _; omega
      · show l.length ≤ _; omega
    · split
      · show l.length ≤ _; omega
      · split
        · show l.length ≤ _; omega
        · split
          · show (l.set _ _).length ≤ _; simp
          · split
            · show l.length ≤ _; omega
            · split
              · split
                · show l.length ≤ _; omega
                · show (l.set _ _).length ≤ _; simp
              · split
                · show l.length ≤ _; omega
                · show (l.set _ _).length ≤ _; simp
  · show l.length ≤ _; omega
abbrev St := List Int × List P
noncomputable def nxt (x : Ac) (s : St) : St := (s.1 ++ [(actB s.2 x).2], (actB s.2 x).1)
noncomputable def step (_ : Int) (x : Ac) (s : St) : St ⊕ (List Int × List P × Int) := .inl (nxt x s)
def fin (s : St) : List Int × List P × Int := (s.1, s.2, 0)
noncomputable def payB (l : List Ac) : List Int × List P × Int := if l.length > 4096 then ([], [], 2) else if l.length > 200 then ([], [], 9) else run ZPayJ.step fin l 0 ([], [])
def InvP (i : Nat) (s : St) : Prop := s.1.length = i ∧ s.2.length ≤ i
theorem inv_nxt {i : Nat} {x : Ac} {s : St} (h : InvP i s) : InvP (i + 1) (nxt x s) := by
  unfold InvP at h ⊢
  have := act_len s.2 x
  unfold nxt
  exact ⟨by simp [h.1], by show (actB s.2 x).1.length ≤ _; omega⟩
theorem pay_spec (l : List Ac) (hl : l.length ≤ maxLen) : Ev (fun k => spec_PayRun.f k l) (payB l) := by
  unfold spec_PayRun.f payB
  by_cases h0 : l.length > 4096
  · rw [if_pos h0]; exact ev_pos (by omega) (ev_some _)
  · rw [if_neg h0]
    refine ev_neg (by omega) ?_
    by_cases h1 : l.length > 200
    · rw [if_pos h1]; exact ev_pos (by omega) (ev_some _)
    · rw [if_neg h1]
      refine ev_neg (by omega) ?_
      refine run_ev l ZPayJ.step fin (fun k i s => spec_PayRun.l0 k l s.1 s.2 i) InvP (fun i x s hx hs => ⟨fun s' hst => ?_, fun r hr => by cases hr⟩) (fun s hs => ?_) ([], []) ⟨rfl, Nat.le_refl _⟩
      · have hi := some_lt hx
        have hr : rd_T33 l (i : Int) = x := getD_some hx
        cases hst
        refine ⟨inv_nxt hs, fun r hE => ?_⟩
        unfold InvP at hs
        refine Ev.step (f := fun k => (spec_l11Act.f k s.2 x.f0 x.f1 x.f2).bind fun bt => (if s.1.length < 17592186044416 then (spec_PayRun.l0 k l (s.1 ++ [bt.2]) bt.1 (wrap64 ((i : Int) + 1))) else (none))) (fun k => ?_) (ev_bind (act_spec s.2 x (by omega)) (ev_pos (by omega) ?_))
        · rw [spec_PayRun.l0, if_pos (ilt hi), if_pos (ige _), hr]
        · rw [wrap_succ hi hl]
          push_cast
          exact hE
      · refine ev_succ (fun k => ?_)
        rw [spec_PayRun.l0, if_neg (by omega)]; rfl
theorem pay_impl (l : List Ac) (hl : l.length ≤ maxLen) : Ev (fun k => impl_PayRun.f k l) (payB l) := by
  unfold impl_PayRun.f payB
  simp only [impl_PayAct.f, Option.bind_some, decide_eq_true_eq]
  by_cases h0 : l.length > 4096
  · rw [if_pos h0]; exact ev_neg (by omega) (ev_some _)
  · rw [if_neg h0]
    refine ev_pos (by omega) ?_
    by_cases h1 : l.length > 200
    · rw [if_pos h1]; exact ev_pos (by omega) (ev_some _)
    · rw [if_neg h1]
      refine ev_neg (by omega) ?_
      refine run_ev l ZPayJ.step fin (fun k i s => impl_PayRun.l0 k s.1 s.2 l (l.length : Int) i) InvP (fun i x s hx hs => ⟨fun s' hst => ?_, fun r hr => by cases hr⟩) (fun s hs => ?_) ([], []) ⟨rfl, Nat.le_refl _⟩
      · have hi := some_lt hx
        have hr : rd_T33 l (i : Int) = x := getD_some hx
        cases hst
        refine ⟨inv_nxt hs, fun r hE => ?_⟩
        unfold InvP at hs
        have hm : s.2.length ≤ maxLen := by unfold maxLen; omega
        have hE' : Ev (fun k => impl_PayRun.l0 k (s.1 ++ [(actB s.2 x).2]) (actB s.2 x).1 l (l.length : Int) (wrap64 ((i : Int) + 1))) r := by
          rw [wrap_succ hi hl]; push_cast; exact hE
        refine Ev.step (f := fun k => (slices_IndexFunc_at_impl_PayRun_1.f k s.2 x.f0 x.f1 x.f2).bind fun t135 => (if x.f0 = 1 then ((impl_authorise.f k s.2 x.f0 x.f1 x.f2).bind fun bt136 => (if s.1.length < 17592186044416 then (impl_PayRun.l0 k (s.1 ++ [bt136.2]) bt136.1 l (l.length : Int) (wrap64 ((i : Int) + 1))) else (none))) else ((impl_within.f x.f0 2 4).bind fun t143 => (if t143 = true then (impl_PayRun.j1 k s.1 s.2 13 t135 l (l.length : Int) (i : Int) (decide (t135 < 0)) x.f0 x.f1 x.f2) else (impl_PayRun.j1 k s.1 s.2 13 t135 l (l.length : Int) (i : Int) false x.f0 x.f1 x.f2))))) (fun k => by rw [impl_PayRun.l0, if_pos (ilt hi), if_pos (ige _), if_pos (ilt hi), hr]) ?_
        refine ev_bind (find_impl s.2 x.f0 x.f1 x.f2 hm) ?_
        by_cases k1 : x.f0 = 1
        · refine ev_pos k1 ?_
          have hA : Ev (fun k => impl_authorise.f k s.2 x.f0 x.f1 x.f2) (actB s.2 x) := by
            have e : actB s.2 x = if nameB x.f1 = true then (if findP s.2 x.f1 ≥ 0 then (s.2, 7) else if 1 ≤ x.f2 ∧ x.f2 ≤ 1000000000 then (if (s.2.length : Int) = 60 then (s.2, 14) else (s.2 ++ [⟨x.f1, x.f2, 0, 0, true⟩], 0)) else (s.2, 5)) else (s.2, 6) := by
              unfold actB; rw [if_pos (by omega), if_pos k1]
            rw [e]
            unfold impl_authorise.f
            refine ev_bind (name_impl x.f1) (ev_if (fun n1 => ev_bind (has_impl s.2 x.f0 x.f1 x.f2 hm) ?_) (fun _ => ev_some _))
            simp only [within_eq, Option.bind_some]
            exact ev_ifd (fun _ => ev_some _) (fun _ => ev_ifd (fun _ => ev_if (fun _ => ev_some _) (fun _ => ev_pos (by omega) (ev_some _))) (fun _ => ev_some _))
          exact ev_bind hA (ev_pos (by omega) hE')
        · refine ev_neg k1 ?_
          simp only [within_eq, Option.bind_some]
          have hj : ∀ b, b = false → Ev (fun k => (impl_within.f x.f0 2 4).bind fun t147 => (if t147 = true then (if 0 ≤ findP s.2 x.f1 then (if findP s.2 x.f1 < (s.2.length : Int) then ((impl_Payment_do.f s.2 (findP s.2 x.f1) x.f0 x.f1 x.f2).bind fun bt148 => (if s.1.length < 17592186044416 then (impl_PayRun.l0 k (s.1 ++ [bt148.1]) bt148.2 l (l.length : Int) (wrap64 ((i : Int) + 1))) else (none))) else (none)) else (none)) else (if s.1.length < 17592186044416 then (impl_PayRun.l0 k (s.1 ++ [13]) s.2 l (l.length : Int) (wrap64 ((i : Int) + 1))) else (none)))) r → Ev (fun k => impl_PayRun.j1 k s.1 s.2 13 (findP s.2 x.f1) l (l.length : Int) (i : Int) b x.f0 x.f1 x.f2) r := fun b hb h => Ev.step (fun k => by rw [impl_PayRun.j1, hb, if_neg (by decide)]) h
          by_cases w1 : 2 ≤ x.f0 ∧ x.f0 ≤ 4
          · refine ev_pos (decide_eq_true w1) ?_
            by_cases f1 : findP s.2 x.f1 < 0
            · have hA : actB s.2 x = (s.2, 8) := by unfold actB; rw [if_pos (by omega), if_neg k1, if_pos f1]
              rw [hA] at hE'
              refine Ev.step (fun k => ?_) hE'
              rw [impl_PayRun.j1, decide_eq_true f1, if_pos rfl, if_pos (by omega)]
            · have hA : actB s.2 x = doB s.2 (findP s.2 x.f1) x := by unfold actB; rw [if_pos (by omega), if_neg k1, if_neg f1]
              rw [hA] at hE'
              have hb := (find_bd s.2 x.f1).2
              refine hj _ (decide_eq_false f1) ?_
              simp only [within_eq, Option.bind_some, do_impl x (by omega : 0 ≤ findP s.2 x.f1) hb]
              exact ev_pos (decide_eq_true w1) (ev_pos (by omega) (ev_pos hb (ev_pos (by omega) hE')))
          · refine ev_neg (by rw [decide_eq_false w1]; decide) (hj false rfl ?_)
            have hA : actB s.2 x = (s.2, 13) := by unfold actB; rw [if_neg (by omega)]
            rw [hA] at hE'
            simp only [within_eq, Option.bind_some]
            exact ev_neg (by rw [decide_eq_false w1]; decide) (ev_pos (by omega) hE')
      · refine ev_succ (fun k => ?_)
        rw [impl_PayRun.l0, if_neg (by omega)]; rfl
theorem run_len : ∀ (l : List Ac) (i : Int) (s : St), (run ZPayJ.step fin l i s).1.length = s.1.length + l.length ∧ (run ZPayJ.step fin l i s).2.1.length ≤ s.2.length + l.length
  | [], _, _ => ⟨rfl, Nat.le_refl _⟩
  | x :: l, i, s => by
    have := run_len l (i + 1) (nxt x s)
    have h2 := act_len s.2 x
    rw [run]
    show (run ZPayJ.step fin l (i + 1) (nxt x s)).1.length = _ ∧ (run ZPayJ.step fin l (i + 1) (nxt x s)).2.1.length ≤ _
    have e1 : (nxt x s).1.length = s.1.length + 1 := by unfold nxt; simp
    have e2 : (nxt x s).2.length ≤ s.2.length + 1 := h2
    rw [List.length_cons]
    omega
theorem pay_len (l : List Ac) : (payB l).1.length ≤ 200 ∧ (payB l).2.1.length ≤ 200 := by
  unfold payB
  split
  · exact ⟨by decide, by decide⟩
  · split
    · exact ⟨by decide, by decide⟩
    · have := run_len l 0 ([], [])
      simp only [List.length_nil] at this
      omega
end Go.Proofs.Ythljgekhknfllaa.ZPayJ
