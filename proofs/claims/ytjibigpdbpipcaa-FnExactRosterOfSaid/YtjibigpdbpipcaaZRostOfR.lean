/- RosterOf: what stands against a worker, what shifts cost; the program's answers and the reference's are the same. -/
import Derived.Test.YtjibigpdbpipcaaZShiftsR
namespace Go.Proofs.Ytjibigpdbpipcaa.ZRostOfR
open Go.RowKit Go.Proofs.Ytjibigpdbpipcaa.R Go.Proofs.Ytjibigpdbpipcaa.Lib Go.Proofs.Ytjibigpdbpipcaa.ZNameR Go.Proofs.Ytjibigpdbpipcaa.ZShiftsR Go.Proofs.YtjibigpdbpipcaaW.PrintWords Go.Proofs.YtjibigpdbpipcaaW.PrintLast Go.Proofs.YtjibigpdbpipcaaW.PrintMore
theorem has_str (l : List ByteArray) (a : ByteArray) (hl : l.length ≤ maxLen) : Ev (fun k => spec_l00Has.f k l a) (l.any (eqS a)) := by
  unfold spec_l00Has.f
  have key := down_list l (P := fun i => Ev (fun k => spec_l00Has.l0 k l a (i : Int)) ((l.drop i).any (eqS a))) ?_ ?_
  · exact key
  · rw [List.drop_length]
    refine ev_succ (fun k => ?_)
    simp only [spec_l00Has.l0]
    rw [if_neg (by omega)]; rfl
  · intro i x hx hd ih
    have hi := some_lt hx
    have hr : rdOf ByteArray.empty l (i : Int) = x := getD_some hx
    rw [hd, List.any_cons]
    by_cases c : x.toList = a.toList
    · refine ev_succ (fun k => ?_)
      simp only [spec_l00Has.l0, hr]
      rw [if_pos (ilt hi), if_pos (ige _), if_pos c]
      unfold eqS
      rw [decide_eq_true c.symm, Bool.true_or]
    · refine Ev.step (fun k => ?_) (ev_eq ih ?_)
      · simp only [spec_l00Has.l0, hr]
        rw [if_pos (ilt hi), if_pos (ige _), if_neg c, wrap_succ hi hl]
      · have : eqS a x = false := decide_eq_false (fun h => c h.symm)
        rw [this, Bool.false_or]
theorem wr_id (m D a b : Int) : wrap64 (wrap64 (wrap64 (m + a) - b) + D) = wrap64 (wrap64 (wrap64 (m + D) + a) - b) := by unfold wrap64; omega
theorem wr_0 (a b : Int) : wrap64 (a - b) = wrap64 (wrap64 (0 + a) - b) := by unfold wrap64; omega
theorem code_ev {L : List Sh} {W : List Wo} {F : List Int} (hF : F.length = L.length) (hL : L.length ≤ 4096) (hs : ∀ p ∈ W, p.f4.length ≤ maxLen) (i v : Nat) (hi : F[i]? = some (v : Int)) (hv : v < W.length) :
    ∃ c, Ev (fun k => impl_shiftCode.f k L W (F.take i) (v : Int)) c ∧ Ev (fun k => spec_l21Code.f k L W F (i : Int)) c := by
  have hil := some_lt hi
  have hlt : (F.take i).length = i := by rw [List.length_take]; omega
  have hri : rd F (i : Int) = (v : Int) := getD_some hi
  have hLi : i < L.length := by omega
  have hrL : rd_T98 L (i : Int) = L[i] := getD_some (List.getElem?_eq_getElem hLi)
  have hmem : W[v] ∈ W := List.getElem_mem hv
  have hrW : rd_T100 W (v : Int) = W[v] := getD_some (List.getElem?_eq_getElem hv)
  generalize L[i] = p at hrL
  generalize W[v] = w at hrW hmem
  have h1 := contains_str w.f4 p.f2 (hs w hmem)
  have h2 := has_str w.f4 p.f2 (hs w hmem)
  generalize w.f4.any (eqS p.f2) = hB at h1 h2
  have key := down (n := i) (P := fun j => ∀ (m s : Int) (c : Bool), s = wrap64 (wrap64 (m + p.f1) - p.f0) →
    ∃ r, Ev (fun k => impl_shiftCode.l0 k L (v : Int) m c (F.take i) (i : Int) (j : Int) p.f0 p.f1 p.f2 w.f0 w.f1 w.f2 w.f3 w.f4) (if hB = true then r else 13) ∧ Ev (fun k => spec_l21Code.l0 k L F (i : Int) s c (j : Int) w.f0 w.f1 w.f2 w.f3 w.f4) r) ?_ ?_ 0 (Nat.zero_le _)
  · obtain ⟨r, e1, e2⟩ := key 0 (wrap64 (p.f1 - p.f0)) false (wr_0 _ _)
    refine ⟨if hB = true then r else 13, ev_same e1 (fun k => ?_), ?_⟩
    · unfold impl_shiftCode.f
      simp only [hlt, hrL, hrW]
      rw [if_pos (ige _), if_pos (ilt hLi), if_pos (ige _), if_pos (ilt hv)]; rfl
    · unfold spec_l21Code.f
      simp only [hri, hrL, hrW]
      refine ev_pos (ige _) (ev_pos (ilt hil) (ev_pos (ige _) (ev_pos (ilt hv) (ev_pos (ilt hLi) (ev_bind h2 ?_)))))
      cases hB with
      | true => exact ev_pos rfl e2
      | false => exact ev_neg (by simp) (ev_some _)
  · intro m s c hsm
    refine ⟨if c = true then 12 else if s > w.f1 then 11 else 0, ?_, ev_succ (fun k => ?_)⟩
    · refine Ev.step (f := fun k => (slices_Contains_string_string.f k w.f4 p.f2).bind fun t => if t = true then (if c = true then (some 12) else (if s > w.f1 then (some 11) else (some 0))) else (some 13)) (fun k => ?_) (ev_bind h1 ?_)
      · simp only [impl_shiftCode.l0]
        rw [if_neg (by omega), hsm]
      · cases hB with
        | true =>
          refine ev_pos rfl (ev_const (fun k => ?_))
          cases c with
          | true => rfl
          | false =>
            by_cases g : s > w.f1
            · simp [g]
            · simp [g]
        | false => exact ev_neg (by simp) (ev_some _)
    · simp only [spec_l21Code.l0]
      rw [if_neg (by omega)]
      cases c with
      | true => rfl
      | false =>
        by_cases g : s > w.f1
        · simp [g]
        · simp [g]
  · intro j hj ih m s c hsm
    have hjF : j < F.length := by omega
    have hjL : j < L.length := by omega
    have hFj : F[j]? = some F[j] := List.getElem?_eq_getElem hjF
    have hrj : rd F (j : Int) = F[j] := getD_some hFj
    have hrt : rd (F.take i) (j : Int) = F[j] := getD_some (by rw [List.getElem?_take_of_lt hj]; exact hFj)
    have hrq : rd_T98 L (j : Int) = L[j] := getD_some (List.getElem?_eq_getElem hjL)
    generalize F[j] = y at hrj hrt
    generalize L[j] = q at hrq
    have ws : Aside0 (wrap64 ((j : Int) + 1) = ((j + 1 : Nat) : Int)) := ⟨wrap_succ hj (by unfold maxLen; omega)⟩
    have eI : ∀ k, impl_shiftCode.l0 (k + 1) L (v : Int) m c (F.take i) (i : Int) (j : Int) p.f0 p.f1 p.f2 w.f0 w.f1 w.f2 w.f3 w.f4 = if y = (v : Int) then impl_shiftCode.l0 k L (v : Int) (wrap64 (m + wrap64 (q.f1 - q.f0))) (c || decide (p.f0 < wrap64 (q.f1 + w.f2))) (F.take i) (i : Int) ((j + 1 : Nat) : Int) p.f0 p.f1 p.f2 w.f0 w.f1 w.f2 w.f3 w.f4 else impl_shiftCode.l0 k L (v : Int) m c (F.take i) (i : Int) ((j + 1 : Nat) : Int) p.f0 p.f1 p.f2 w.f0 w.f1 w.f2 w.f3 w.f4 := by
      intro k
      simp only [impl_shiftCode.l0, hrt, hrq, ws.out]
      rw [if_pos (ilt hj), if_pos (ige _), if_pos (by rw [hlt]; exact ilt hj)]
      by_cases g : y = (v : Int)
      · rw [if_pos g, if_pos g, if_pos (ilt hjL)]
        cases c with
        | true => rfl
        | false => rw [if_neg (by simp), Bool.false_or]
      · rw [if_neg g, if_neg g]
    have eS : ∀ k, spec_l21Code.l0 (k + 1) L F (i : Int) s c (j : Int) w.f0 w.f1 w.f2 w.f3 w.f4 = if y = (v : Int) then spec_l21Code.l0 k L F (i : Int) (wrap64 (s + wrap64 (q.f1 - q.f0))) (c || decide (p.f0 < wrap64 (q.f1 + w.f2))) ((j + 1 : Nat) : Int) w.f0 w.f1 w.f2 w.f3 w.f4 else spec_l21Code.l0 k L F (i : Int) s c ((j + 1 : Nat) : Int) w.f0 w.f1 w.f2 w.f3 w.f4 := by
      intro k
      simp only [spec_l21Code.l0, hrj, hri, hrq, hrL, ws.out]
      rw [if_pos (ilt hj), if_pos (ige _), if_pos (ilt hjF), if_pos (ige _), if_pos (ilt hil)]
      by_cases g : y = (v : Int)
      · rw [if_pos g, if_pos g, if_pos (ilt hjL)]
        cases c with
        | true => rfl
        | false => rw [if_neg (by simp), if_pos (ilt hLi), Bool.false_or]
      · rw [if_neg g, if_neg g]
    by_cases g : y = (v : Int)
    · obtain ⟨r, e1, e2⟩ := ih (wrap64 (m + wrap64 (q.f1 - q.f0))) (wrap64 (s + wrap64 (q.f1 - q.f0))) (c || decide (p.f0 < wrap64 (q.f1 + w.f2))) (by rw [hsm]; exact wr_id _ _ _ _)
      exact ⟨r, Ev.step eI (ev_pos g e1), Ev.step eS (ev_pos g e2)⟩
    · obtain ⟨r, e1, e2⟩ := ih m s c hsm
      exact ⟨r, Ev.step eI (ev_neg g e1), Ev.step eS (ev_neg g e2)⟩
theorem cost_ev {L : List Sh} {W : List Wo} {F : List Int} (hF : F.length = L.length) (hL : L.length ≤ 4096) (hf : ∀ p ∈ F, ∃ v : Nat, p = (v : Int) ∧ v < W.length) :
    ∃ c, Ev (fun k => impl_costOf.f k L W F) c ∧ Ev (fun k => spec_l21Cost.f k L W F) c := by
  unfold impl_costOf.f spec_l21Cost.f
  have key := down_list F (P := fun i => ∀ m : Int, ∃ c, Ev (fun k => impl_costOf.l0 k L W m F (F.length : Int) (i : Int)) c ∧ Ev (fun k => spec_l21Cost.l0 k L W F m (i : Int)) c) ?_ ?_
  · exact key 0
  · intro m
    refine ⟨m, ev_succ (fun k => ?_), ev_succ (fun k => ?_)⟩
    · simp only [impl_costOf.l0]
      rw [if_neg (by omega)]
    · simp only [spec_l21Cost.l0]
      rw [if_neg (by omega)]
  · intro i x hx hd ih m
    have hi := some_lt hx
    have hr : rd F (i : Int) = x := getD_some hx
    obtain ⟨v, rfl, hv⟩ := hf x (List.mem_of_getElem? hx)
    have hiL : i < L.length := by omega
    obtain ⟨c, e1, e2⟩ := ih (wrap64 (m + (wrap64 ((wrap64 ((rd_T98 L (i : Int)).f1 - (rd_T98 L (i : Int)).f0)) * (rd_T100 W (v : Int)).f3))))
    refine ⟨c, Ev.step (fun k => ?_) e1, Ev.step (fun k => ?_) e2⟩
    · simp only [impl_costOf.l0, hr]
      rw [if_pos (ilt hi), if_pos (ige _), if_pos (ilt hi), if_pos (ilt hiL), if_pos (ige _), if_pos (ilt hv), wrap_succ hi (by unfold maxLen; omega)]
    · simp only [spec_l21Cost.l0, hr]
      rw [if_pos (ilt hi), if_pos (ige _), if_pos (ilt hiL), if_pos (ige _), if_pos (ilt hv), wrap_succ hi (by unfold maxLen; omega)]
abbrev Res := List Int × Int × Int × Int
def eR (n : Int) : Res := (([] : List Int), 0, n, 0)
section
variable {L : List Sh} {W : List Wo} {F : List Int} {r : Res}
theorem impl_long (h : ¬ (L.length ≤ 4096 ∧ W.length ≤ 4096 ∧ F.length ≤ 4096)) : Ev (fun k => impl_RosterOf.f k L W F) (eR 2) := by
  have e : Ev (fun k => impl_RosterOf.j0 k L W F true) (eR 2) := ev_succ (fun k => by simp only [impl_RosterOf.j0]; rw [if_pos trivial]; rfl)
  unfold impl_RosterOf.f impl_Shift.f impl_Worker.f impl_isList_int.f
  simp only [Option.bind_some]
  by_cases a : (L.length : Int) ≤ 4096
  · refine ev_pos (decide_eq_true a) ?_
    by_cases b : (W.length : Int) ≤ 4096
    · refine ev_pos (decide_eq_true b) ?_
      rw [decide_eq_false (show ¬ (F.length : Int) ≤ 4096 by omega)]
      exact e
    · exact ev_neg (by simpa using b) e
  · exact ev_neg (by simpa using a) e
theorem impl_short (h : L.length ≤ 4096 ∧ W.length ≤ 4096 ∧ F.length ≤ 4096) (k0 : Ev (fun k => impl_RosterOf.j0 k L W F false) r) : Ev (fun k => impl_RosterOf.f k L W F) r := by
  unfold impl_RosterOf.f impl_Shift.f impl_Worker.f impl_isList_int.f
  simp only [Option.bind_some]
  refine ev_pos (decide_eq_true (by omega)) (ev_pos (decide_eq_true (by omega)) ?_)
  rw [decide_eq_true (show (F.length : Int) ≤ 4096 by omega)]
  exact k0
theorem spec_long (h : ¬ (L.length ≤ 4096 ∧ W.length ≤ 4096 ∧ F.length ≤ 4096)) : Ev (fun k => spec_RosterOf.f k L W F) (eR 2) := by
  have e : Ev (fun k => spec_RosterOf.j0 k L W F true) (eR 2) := ev_succ (fun k => by simp only [spec_RosterOf.j0]; rw [if_pos trivial]; rfl)
  unfold spec_RosterOf.f
  by_cases a : (L.length : Int) > 4096
  · exact ev_pos a e
  · refine ev_neg a ?_
    by_cases b : (W.length : Int) > 4096
    · exact ev_pos b e
    · refine ev_neg b ?_
      rw [decide_eq_true (show (F.length : Int) > 4096 by omega)]
      exact e
theorem spec_short (h : L.length ≤ 4096 ∧ W.length ≤ 4096 ∧ F.length ≤ 4096) (k0 : Ev (fun k => spec_RosterOf.j0 k L W F false) r) : Ev (fun k => spec_RosterOf.f k L W F) r := by
  unfold spec_RosterOf.f
  refine ev_neg (by omega) (ev_neg (by omega) ?_)
  rw [decide_eq_false (show ¬ (F.length : Int) > 4096 by omega)]
  exact k0
end
theorem way_ev {L : List Sh} {W : List Wo} {F : List Int} (hF : F.length = L.length) (hL : L.length ≤ 4096) (hW : W.length ≤ 4096) (hs : ∀ p ∈ W, p.f4.length ≤ maxLen) :
    ∃ r : Res, Ev (fun k => impl_RosterOf.l0 k L W F F (F.length : Int) ((0 : Nat) : Int)) r ∧ Ev (fun k => spec_RosterOf.l0 k L W F ((0 : Nat) : Int)) r ∧ r.1.length ≤ 4096 := by
  have key := down_list F (P := fun i => (∀ p ∈ F.take i, ∃ v : Nat, p = (v : Int) ∧ v < W.length) → ∃ r : Res, Ev (fun k => impl_RosterOf.l0 k L W F F (F.length : Int) (i : Int)) r ∧ Ev (fun k => spec_RosterOf.l0 k L W F (i : Int)) r ∧ r.1.length ≤ 4096) ?_ ?_
  · exact key (by simp)
  · intro hf
    rw [List.take_length] at hf
    obtain ⟨c, e1, e2⟩ := cost_ev hF hL hf
    refine ⟨(F, c, 0, 0), ?_, ?_, by show F.length ≤ 4096; omega⟩
    · refine Ev.step (f := fun k => (impl_costOf.f k L W F).bind fun t264 => (some (F, t264, 0, 0))) (fun k => ?_) (ev_bind e1 (ev_some _))
      simp only [impl_RosterOf.l0, slices_Clone_int_int.f, Option.bind_some, List.length_nil, Nat.zero_add, List.nil_append]
      rw [if_neg (by omega)]
      simp only [if_pos (show F.length < 17592186044416 by omega), Option.bind_some]
    · refine Ev.step (f := fun k => (spec_l21Cost.f k L W F).bind fun t158 => (some (F, t158, 0, 0))) (fun k => ?_) (ev_bind e2 (ev_some _))
      simp only [spec_RosterOf.l0, Option.bind_some, List.length_nil, Nat.zero_add, List.nil_append]
      rw [if_neg (by omega)]
      simp only [if_pos (show F.length < 17592186044416 by omega)]
  · intro i x hx hd ih hf
    have hi := some_lt hx
    have hr : rd F (i : Int) = x := getD_some hx
    have ws : Aside0 (wrap64 ((i : Int) + 1) = ((i + 1 : Nat) : Int)) := ⟨wrap_succ hi (by unfold maxLen; omega)⟩
    have hw : wrap64 ((W.length : Int) - 1) = (W.length : Int) - 1 := w64 (by omega) (by omega)
    have hiF : (i : Int) ≤ (F.length : Int) := by omega
    have eI : ∀ k, impl_RosterOf.l0 (k + 1) L W F F (F.length : Int) (i : Int) = if 0 ≤ x ∧ x ≤ (W.length : Int) - 1 then (impl_shiftCode.f k L W (F.take i) x).bind fun t => (if t = 0 then (impl_RosterOf.l0 k L W F F (F.length : Int) ((i + 1 : Nat) : Int)) else (some (([] : List Int), 0, t, (i : Int)))) else some (([] : List Int), 0, 5, (i : Int)) := by
      intro k
      simp only [impl_RosterOf.l0, hr, within_eq, hw, Option.bind_some, ws.out, Int.toNat_natCast, decide_eq_true_eq]
      rw [if_pos (ilt hi), if_pos (ige _), if_pos (ilt hi)]
      simp only [if_pos hiF]
    have eS : ∀ k, spec_RosterOf.l0 (k + 1) L W F (i : Int) = if 0 ≤ x ∧ x ≤ (W.length : Int) - 1 then (spec_l21Code.f k L W F (i : Int)).bind fun t => (if t = 0 then (spec_RosterOf.l0 k L W F ((i + 1 : Nat) : Int)) else (some (([] : List Int), 0, t, (i : Int)))) else some (([] : List Int), 0, 5, (i : Int)) := by
      intro k
      simp only [spec_RosterOf.l0, hr, l01In_eq, hw, Option.bind_some, ws.out, decide_eq_true_eq]
      rw [if_pos (ilt hi), if_pos (ige _)]
    by_cases g : 0 ≤ x ∧ x ≤ (W.length : Int) - 1
    · obtain ⟨v, rfl⟩ := Int.eq_ofNat_of_zero_le g.1
      have hv : v < W.length := by omega
      obtain ⟨c, e1, e2⟩ := code_ev hF hL hs i v hx hv
      by_cases hc : c = 0
      · obtain ⟨r, h1, h2, h3⟩ := ih (fun p hp => by
          rw [List.take_succ_eq_append_getElem hi, List.mem_append] at hp
          rcases hp with hp | hp
          · exact hf p hp
          · rw [(List.getElem?_eq_some_iff.1 hx).2] at hp
            exact ⟨v, by simpa using hp, hv⟩)
        exact ⟨r, Ev.step eI (ev_pos g (ev_bind e1 (ev_pos hc h1))), Ev.step eS (ev_pos g (ev_bind e2 (ev_pos hc h2))), h3⟩
      · exact ⟨_, Ev.step eI (ev_pos g (ev_bind e1 (ev_neg hc (ev_some _)))), Ev.step eS (ev_pos g (ev_bind e2 (ev_neg hc (ev_some _)))), by simp⟩
    · exact ⟨_, Ev.step eI (ev_neg g (ev_some _)), Ev.step eS (ev_neg g (ev_some _)), by simp⟩
theorem roster_both (L : List Sh) (W : List Wo) (F : List Int) (hs : ∀ p ∈ W, p.f4.length ≤ 1048576) : ∃ r : Res, Ev (fun k => impl_RosterOf.f k L W F) r ∧ Ev (fun k => spec_RosterOf.f k L W F) r ∧ r.1.length ≤ 4096 := by
  by_cases a : L.length ≤ 4096 ∧ W.length ≤ 4096 ∧ F.length ≤ 4096
  · have hm : ∀ p ∈ W, p.f4.length ≤ maxLen := fun p hp => by have := hs p hp; unfold maxLen; omega
    have i1 := shifts_impl L W (by unfold maxLen; omega) (by omega) hm
    have s1 := shifts_spec L W (by unfold maxLen; omega) (by unfold maxLen; omega) hm
    have eI : ∀ k, impl_RosterOf.j0 (k + 1) L W F false = (impl_ShiftsOK.f k L W).bind fun t260 => (if t260 = true then (if (F.length : Int) = (L.length : Int) then (impl_RosterOf.l0 k L W F F (F.length : Int) 0) else (some (([] : List Int), 0, 3, 0))) else (some (([] : List Int), 0, 1, 0))) := fun k => by simp only [impl_RosterOf.j0]; rw [if_neg (by simp)]
    have eS : ∀ k, spec_RosterOf.j0 (k + 1) L W F false = (spec_ShiftsOK.f k L W).bind fun t260 => (if t260 = true then (if (F.length : Int) = (L.length : Int) then (spec_RosterOf.l0 k L W F 0) else (some (([] : List Int), 0, 3, 0))) else (some (([] : List Int), 0, 1, 0))) := fun k => by simp only [spec_RosterOf.j0]; rw [if_neg (by simp)]
    cases hB : shB L W with
    | false =>
      rw [hB] at i1 s1
      exact ⟨eR 1, impl_short a (Ev.step eI (ev_bind i1 (ev_neg (by simp) (ev_some _)))), spec_short a (Ev.step eS (ev_bind s1 (ev_neg (by simp) (ev_some _)))), by simp [eR]⟩
    | true =>
      rw [hB] at i1 s1
      by_cases c : (F.length : Int) = (L.length : Int)
      · obtain ⟨r, h1, h2, h3⟩ := way_ev (L := L) (W := W) (F := F) (by omega) (by omega) (by omega) hm
        exact ⟨r, impl_short a (Ev.step eI (ev_bind i1 (ev_pos rfl (ev_pos c h1)))), spec_short a (Ev.step eS (ev_bind s1 (ev_pos rfl (ev_pos c h2)))), h3⟩
      · exact ⟨eR 3, impl_short a (Ev.step eI (ev_bind i1 (ev_pos rfl (ev_neg c (ev_some _))))), spec_short a (Ev.step eS (ev_bind s1 (ev_pos rfl (ev_neg c (ev_some _))))), by simp [eR]⟩
  · exact ⟨eR 2, impl_long a, spec_long a, by simp [eR]⟩
end Go.Proofs.Ytjibigpdbpipcaa.ZRostOfR
