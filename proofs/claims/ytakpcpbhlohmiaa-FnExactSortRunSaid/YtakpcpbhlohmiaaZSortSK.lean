/- Sorting: the reference's belt goes side by side with the program's; both come to the same, for all lanes and parcels. -/
import Derived.Test.YtakpcpbhlohmiaaZSortRK
namespace Go.Proofs.Ytakpcpbhlohmiaa.ZSortSK
open Go.RowKit Go.Proofs.Ytakpcpbhlohmiaa.K Go.Proofs.Ytakpcpbhlohmiaa.Lib Go.Proofs.Ytakpcpbhlohmiaa.ZSortK Go.Proofs.Ytakpcpbhlohmiaa.ZSortIK Go.Proofs.Ytakpcpbhlohmiaa.ZSortRK Go.Proofs.YtakpcpbhlohmiaaW.PrintWords Go.Proofs.YtakpcpbhlohmiaaW.PrintLast Go.Proofs.YtakpcpbhlohmiaaW.PrintMore
abbrev Bt := S57
abbrev Res := Int × Int × List Int × List Int × Int

theorem l01In_eq (a b c : Int) : spec_l01In.f a b c = some (decide (b ≤ a ∧ a ≤ c)) := by
  unfold spec_l01In.f
  by_cases h : a ≥ b
  · rw [if_pos h]; simp [h]
  · rw [if_neg h]; simp; omega
def bs (rounds belt : List Int) : List Bt := belt.map fun i => ⟨i, rd rounds i⟩
theorem sreset_ev {L : List Ln} {P out rej : List Int} {belt : List Bt} {t rec : Int} {r : Res} (hL : L.length ≤ 9) (hE : ∀ x ∈ L, 1 ≤ x.f1) :
    ∀ H : List Int, H.length = L.length → Ev (fun k => spec_SortRun.l3 k L P belt (rst t L H) (L.length : Int) t rec out rej) r →
      Ev (fun k => spec_SortRun.l3 k L P belt H ((0 : Nat) : Int) t rec out rej) r := by
  refine down_list L (P := fun i => ∀ H : List Int, H.length = L.length → Ev (fun k => spec_SortRun.l3 k L P belt (H.take i ++ rst t (L.drop i) (H.drop i)) (L.length : Int) t rec out rej) r →
      Ev (fun k => spec_SortRun.l3 k L P belt H (i : Int) t rec out rej) r) ?_ ?_
  · intro H hH h
    rw [List.drop_length, show L.length = H.length from hH.symm, List.take_length, List.drop_length] at h
    simpa [rst, hH] using h
  · intro i x hx hd ih H hH h
    have hi := some_lt hx
    have hrx : rd_T32 L (i : Int) = x := getD_some hx
    have hx1 := hE x (List.mem_of_getElem? hx)
    have hHi : H[i]? = some (H[i]'(by omega)) := List.getElem?_eq_getElem (by omega)
    have hdH : H.drop i = H[i]'(by omega) :: H.drop (i + 1) := List.drop_eq_getElem_cons (by omega)
    generalize hg : (H[i]'(by omega) : Int) = g at hHi hdH
    rw [hd, hdH, rst] at h
    by_cases c : Int.tmod t x.f1 = 0
    · rw [if_pos c] at h
      refine Ev.step (f := fun k => spec_SortRun.l3 k L P belt (H.set i 0) (wrap64 ((i : Int) + 1)) t rec out rej) (fun k => ?_) ?_
      · simp only [spec_SortRun.l3, hrx, Int.toNat_natCast]
        rw [if_pos (ilt hi), if_pos (ige _), if_neg (by omega), if_pos c, if_pos (by omega)]
      · rw [wrap_succ hi (by unfold maxLen; omega)]
        refine ih (H.set i 0) (by rw [List.length_set]; exact hH) ?_
        have e1 : (H.set i 0).take (i + 1) = H.take i ++ [0] := by
          rw [List.take_succ_eq_append_getElem (by rw [List.length_set]; omega), List.getElem_set_self, List.take_set, List.set_eq_of_length_le (by rw [List.length_take]; omega)]
        have e2 : (H.set i 0).drop (i + 1) = H.drop (i + 1) := by rw [List.drop_set_of_lt (by omega)]
        rw [e1, e2, List.append_assoc]
        exact h
    · rw [if_neg c] at h
      refine Ev.step (f := fun k => spec_SortRun.l3 k L P belt H (wrap64 ((i : Int) + 1)) t rec out rej) (fun k => ?_) ?_
      · simp only [spec_SortRun.l3, hrx, Int.toNat_natCast]
        rw [if_pos (ilt hi), if_pos (ige _), if_neg (by omega), if_neg c]
      · rw [wrap_succ hi (by unfold maxLen; omega)]
        refine ih H hH ?_
        rw [List.take_succ_eq_append_getElem (by omega), hg, List.append_assoc]
        exact h
theorem stick_ev {L : List Ln} {P held out rej : List Int} {rest : List Bt} {t rec h c : Int} {v lane : Nat} {x : Ln} {r : Res}
    (hP : P[v]? = some (lane : Int)) (hx : L[lane]? = some x) (h1 : held.length = L.length) (h3 : out.length = P.length) (hr : rest.length ≤ 1000) (hj : rej.length ≤ 1000)
    (ht : 0 ≤ t ∧ t ≤ 1000) (hc : 0 ≤ rec ∧ rec ≤ 1000) (hh : held[lane]? = some h) (hhb : 0 ≤ h ∧ h ≤ 1000) (hcb : 0 ≤ c ∧ c ≤ 3)
    (A : h < x.f0 → Ev (fun k => spec_SortRun.l2 k L P rest (held.set lane (h + 1)) (t + 1) rec (out.set v t) rej) r)
    (B : ¬ h < x.f0 → c = 3 → Ev (fun k => spec_SortRun.l2 k L P rest held (t + 1) rec out (rej ++ [(v : Int)])) r)
    (C : ¬ h < x.f0 → c ≠ 3 → Ev (fun k => spec_SortRun.l2 k L P (rest ++ [(⟨(v : Int), c + 1⟩ : Bt)]) held (t + 1) (rec + 1) out rej) r) :
    Ev (fun k => spec_SortRun.l3 k L P ((⟨(v : Int), c⟩ : Bt) :: rest) held (L.length : Int) t rec out rej) r := by
  have hv := some_lt hP
  have hl := some_lt hx
  have e0 : rd_T57 ((⟨(v : Int), c⟩ : Bt) :: rest) 0 = ⟨(v : Int), c⟩ := rfl
  have e1 : rd P (v : Int) = (lane : Int) := rd_set hP
  have e2 : rd held (lane : Int) = h := rd_set hh
  have e4 : rd_T32 L (lane : Int) = x := getD_some hx
  have w1 : wrap64 (t + 1) = t + 1 := w64 (by omega) (by omega)
  have w2 : wrap64 (rec + 1) = rec + 1 := w64 (by omega) (by omega)
  have w3 : wrap64 (h + 1) = h + 1 := w64 (by omega) (by omega)
  have w4 : wrap64 (c + 1) = c + 1 := w64 (by omega) (by omega)
  have d0 : ((⟨(v : Int), c⟩ : Bt) :: rest).drop 1 = rest := rfl
  have key : ∀ k, spec_SortRun.l3 (k + 1) L P ((⟨(v : Int), c⟩ : Bt) :: rest) held (L.length : Int) t rec out rej =
      if h < x.f0 then spec_SortRun.l2 k L P rest (held.set lane (h + 1)) (t + 1) rec (out.set v t) rej
      else if c = 3 then spec_SortRun.l2 k L P rest held (t + 1) rec out (rej ++ [(v : Int)])
      else spec_SortRun.l2 k L P (rest ++ [(⟨(v : Int), c + 1⟩ : Bt)]) held (t + 1) (rec + 1) out rej := by
    intro k
    simp only [spec_SortRun.l3, e0, e1, e2, e4, w1, w2, w3, w4, d0, Int.toNat_natCast, Option.bind_some, List.nil_append, List.length_nil, Nat.zero_add]
    rw [if_neg (by omega), if_pos (by simp only [List.length_cons]; omega), if_pos (by simp only [List.length_cons]; omega), if_pos (by omega), if_pos (ige _), if_pos (ilt hv), if_pos (ige _), if_pos (by omega), if_pos (ilt hl)]
    by_cases a : h < x.f0
    · rw [if_pos a, if_pos a, if_pos (by omega)]
    · rw [if_neg a, if_neg a]
      by_cases b : c = 3
      · rw [if_pos b, if_pos b, if_pos (by omega)]
      · rw [if_neg b, if_neg b, if_pos (by omega)]
  refine Ev.step key ?_
  by_cases a : h < x.f0
  · exact ev_pos a (A a)
  · refine ev_neg a ?_
    by_cases b : c = 3
    · exact ev_pos b (B a b)
    · exact ev_neg b (C a b)
theorem bs_set {rounds rest : List Int} {v : Nat} {c : Int} (hr : v < rounds.length) (h : ∀ i ∈ rest, ∃ w : Nat, i = (w : Int) ∧ w ≠ v) :
    bs (rounds.set v c) (rest ++ [(v : Int)]) = bs rounds rest ++ [(⟨(v : Int), c⟩ : Bt)] := by
  unfold bs
  rw [List.map_append, List.map_singleton, rd_set (List.getElem?_set_self hr)]
  congr 1
  refine List.map_congr_left (fun i hi => ?_)
  obtain ⟨w, rfl, hw⟩ := h i hi
  rw [rd_ne hw]
theorem both_ev {L : List Ln} {P : List Int} (V : Valid L P) : ∀ (N : Nat) (belt held rounds out rej : List Int) (t rec : Int), Inv L P belt held rounds out rej t rec → (400 - t).toNat ≤ N →
    ∃ (held' rounds' out' rej' : List Int) (t' rec' : Int), Ev (fun k => impl_SortRun.l1 k L P belt held rounds t rec out rej) (t', rec', out', rej', 0) ∧ Ev (fun k => spec_SortRun.l2 k L P (bs rounds belt) held t rec out rej) (t', rec', out', rej', 0) ∧ Inv L P [] held' rounds' out' rej' t' rec' := by
  intro N
  induction N with
  | zero =>
    intro belt held rounds out rej t rec I hN
    cases belt with
    | nil => exact ⟨held, rounds, out, rej, t, rec, ev_succ (fun k => by simp only [impl_SortRun.l1]; rw [if_neg (by simp)]), ev_succ (fun k => by simp only [spec_SortRun.l2, bs, List.map_nil]; rw [if_neg (by simp)]), I⟩
    | cons i rest =>
      obtain ⟨v, c, rfl, ho, hr, hc0, hc1⟩ := I.bl i (by simp)
      have := I.mt
      simp only [mu] at this
      rw [rd_set hr] at this
      omega
  | succ N ih =>
    intro belt held rounds out rej t rec I hN
    cases belt with
    | nil => exact ⟨held, rounds, out, rej, t, rec, ev_succ (fun k => by simp only [impl_SortRun.l1]; rw [if_neg (by simp)]), ev_succ (fun k => by simp only [spec_SortRun.l2, bs, List.map_nil]; rw [if_neg (by simp)]), I⟩
    | cons i rest =>
      obtain ⟨v, c, rfl, ho, hr, hc0, hc1⟩ := I.bl i (by simp)
      have hmt := I.mt
      simp only [mu] at hmt
      rw [rd_set hr] at hmt
      have hng := I.ng
      have hnl := neg_le out
      have h3 := I.h3
      have p100 := V.p100
      have n9 := V.n9
      have htk := I.tk
      have hrc := I.rc
      have ht0 := I.t0
      simp only [List.length_cons] at hng htk
      have hvl : v < P.length := by have := some_lt ho; omega
      have hP0 : P[v]? = some (P[v]) := List.getElem?_eq_getElem hvl
      obtain ⟨lane, e1, hl⟩ := V.pl P[v] (List.getElem_mem hvl)
      rw [e1] at hP0
      have hx : L[lane]? = some (L[lane]) := List.getElem?_eq_getElem hl
      generalize L[lane] = x at hx
      have hcl := cnt_le x.f1 lane (t / x.f1) P out
      have hlen : (rst t L held).length = L.length := by rw [rst_len]; exact I.h1
      have hE : ∀ y ∈ L, 1 ≤ y.f1 := fun y hy => (V.ln y hy).2.2.1
      have hbl : (bs rounds rest).length = rest.length := by unfold bs; rw [List.length_map]
      have hbs : bs rounds ((v : Int) :: rest) = (⟨(v : Int), c⟩ : Bt) :: bs rounds rest := by unfold bs; rw [List.map_cons, rd_set hr]
      have head : ∀ r, Ev (fun k => impl_SortRun.l2 k L P ((v : Int) :: rest) (rst t L held) rounds L (L.length : Int) (L.length : Int) t rec out rej) r → Ev (fun k => impl_SortRun.l1 k L P ((v : Int) :: rest) held rounds t rec out rej) r := by
        intro r h
        refine Ev.step (f := fun k => impl_SortRun.l2 k L P ((v : Int) :: rest) held rounds L (L.length : Int) ((0 : Nat) : Int) t rec out rej) (fun k => ?_) (reset_ev n9 hE held I.h1 h)
        simp only [impl_SortRun.l1]
        rw [if_pos (by simp only [List.length_cons]; omega)]; rfl
      have shead : ∀ r, Ev (fun k => spec_SortRun.l3 k L P ((⟨(v : Int), c⟩ : Bt) :: bs rounds rest) (rst t L held) (L.length : Int) t rec out rej) r → Ev (fun k => spec_SortRun.l2 k L P (bs rounds ((v : Int) :: rest)) held t rec out rej) r := by
        intro r h
        rw [hbs]
        refine Ev.step (f := fun k => spec_SortRun.l3 k L P ((⟨(v : Int), c⟩ : Bt) :: bs rounds rest) held ((0 : Nat) : Int) t rec out rej) (fun k => ?_) (sreset_ev n9 hE held I.h1 h)
        simp only [spec_SortRun.l2]
        rw [if_pos (by simp only [List.length_cons]; omega)]; rfl
      by_cases a : (cnt x.f1 lane (t / x.f1) P out : Int) < x.f0
      · obtain ⟨h', r', o', j', t', c', hEv, hSv, hI⟩ := ih _ _ _ _ _ _ _ (inv_A V I hP0 hx a) (by omega)
        exact ⟨h', r', o', j', t', c', head _ (tick_ev hP0 hx hlen I.h2 I.h3 (by omega) (by omega) ⟨ht0, by omega⟩ ⟨hrc, by omega⟩ (held_now V I hx) ⟨by omega, by omega⟩ hr ⟨hc0, hc1⟩ (fun _ => hEv) (fun b _ => absurd a b) (fun b _ => absurd a b)),
          shead _ (stick_ev hP0 hx hlen I.h3 (by omega) (by omega) ⟨ht0, by omega⟩ ⟨hrc, by omega⟩ (held_now V I hx) ⟨by omega, by omega⟩ ⟨hc0, hc1⟩ (fun _ => hSv) (fun b _ => absurd a b) (fun b _ => absurd a b)), hI⟩
      · by_cases b : c = 3
        · obtain ⟨h', r', o', j', t', c', hEv, hSv, hI⟩ := ih _ _ _ _ _ _ _ (inv_B V I) (by omega)
          exact ⟨h', r', o', j', t', c', head _ (tick_ev hP0 hx hlen I.h2 I.h3 (by omega) (by omega) ⟨ht0, by omega⟩ ⟨hrc, by omega⟩ (held_now V I hx) ⟨by omega, by omega⟩ hr ⟨hc0, hc1⟩ (fun b' => absurd b' a) (fun _ _ => hEv) (fun _ d => absurd b d)),
            shead _ (stick_ev hP0 hx hlen I.h3 (by omega) (by omega) ⟨ht0, by omega⟩ ⟨hrc, by omega⟩ (held_now V I hx) ⟨by omega, by omega⟩ ⟨hc0, hc1⟩ (fun b' => absurd b' a) (fun _ _ => hSv) (fun _ d => absurd b d)), hI⟩
        · obtain ⟨h', r', o', j', t', c', hEv, hSv, hI⟩ := ih _ _ _ _ _ _ _ (inv_C V I hr b) (by omega)
          rw [bs_set (some_lt hr) (rest_ne I)] at hSv
          exact ⟨h', r', o', j', t', c', head _ (tick_ev hP0 hx hlen I.h2 I.h3 (by omega) (by omega) ⟨ht0, by omega⟩ ⟨hrc, by omega⟩ (held_now V I hx) ⟨by omega, by omega⟩ hr ⟨hc0, hc1⟩ (fun b' => absurd b' a) (fun _ d => absurd d b) (fun _ _ => hEv)),
            shead _ (stick_ev hP0 hx hlen I.h3 (by omega) (by omega) ⟨ht0, by omega⟩ ⟨hrc, by omega⟩ (held_now V I hx) ⟨by omega, by omega⟩ ⟨hc0, hc1⟩ (fun b' => absurd b' a) (fun _ d => absurd d b) (fun _ _ => hSv)), hI⟩
/-! ### the ways in -/
def eR (n : Int) : Res := (0, 0, ([] : List Int), ([] : List Int), n)
def okP (L : List Ln) (p : Int) : Bool := decide (0 ≤ p ∧ p ≤ wrap64 ((L.length : Int) - 1))
section
variable {L : List Ln} {P : List Int} {r : Res}
theorem slanes_ev (hL : L.length ≤ 9) (h1 : L.all okL = true → Ev (fun k => spec_SortRun.l1 k L P [] 0 0 0 []) r) (h2 : L.all okL = false → r = eR 1) : Ev (fun k => spec_SortRun.l0 k L P [] 0) r := by
  have key := down_list L (P := fun i => ((L.drop i).all okL = true → Ev (fun k => spec_SortRun.l1 k L P [] 0 0 0 []) r) → ((L.drop i).all okL = false → r = eR 1) → Ev (fun k => spec_SortRun.l0 k L P [] (i : Int)) r) ?_ ?_
  · exact key h1 h2
  · intro g _
    rw [List.drop_length] at g
    refine Ev.step (fun k => ?_) (g rfl)
    simp only [spec_SortRun.l0]
    rw [if_neg (by omega)]
  · intro i x hx hd ih g1 g2
    have hi := some_lt hx
    have hrx : rd_T32 L (i : Int) = x := getD_some hx
    rw [hd, List.all_cons] at g1 g2
    by_cases a : 1 ≤ x.f0 ∧ x.f0 ≤ 100
    · by_cases b : 1 ≤ x.f1 ∧ x.f1 ≤ 100
      · have ho : okL x = true := by unfold okL; rw [decide_eq_true a, decide_eq_true b]; rfl
        rw [ho, Bool.true_and] at g1 g2
        refine Ev.step (f := fun k => spec_SortRun.l0 k L P [] (wrap64 ((i : Int) + 1))) (fun k => ?_) ?_
        · simp only [spec_SortRun.l0, hrx, l01In_eq, Option.bind_some]
          rw [if_pos (ilt hi), if_pos (ige _), if_pos (decide_eq_true a), if_pos (decide_eq_true b)]
        · rw [wrap_succ hi (by unfold maxLen; omega)]; exact ih g1 g2
      · have ho : okL x = false := by unfold okL; rw [decide_eq_false b, Bool.and_false]
        rw [ho, Bool.false_and] at g2
        rw [g2 rfl]
        refine ev_succ (fun k => ?_)
        simp only [spec_SortRun.l0, hrx, l01In_eq, Option.bind_some]
        rw [if_pos (ilt hi), if_pos (ige _), if_pos (decide_eq_true a), if_neg (by simpa using b)]; rfl
    · have ho : okL x = false := by unfold okL; rw [decide_eq_false a, Bool.false_and]
      rw [ho, Bool.false_and] at g2
      rw [g2 rfl]
      refine ev_succ (fun k => ?_)
      simp only [spec_SortRun.l0, hrx, l01In_eq, Option.bind_some]
      rw [if_pos (ilt hi), if_pos (ige _), if_neg (by simpa using a)]; rfl
theorem belt_bs (m i : Nat) : bs (List.replicate m 0) (belt0 i) = (List.range i).map fun j : Nat => (⟨(j : Int), 0⟩ : Bt) := by
  unfold bs belt0
  rw [List.map_map]
  refine List.map_congr_left (fun j _ => ?_)
  show (⟨(j : Int), rd (List.replicate m 0) (j : Int)⟩ : Bt) = _
  rw [rd_rep]
theorem sparcels_ev (hL : L.length ≤ 9) (hP : P.length ≤ 100) (h1 : P.all (okP L) = true → Ev (fun k => spec_SortRun.l2 k L P (bs (List.replicate P.length 0) (belt0 P.length)) (List.replicate L.length 0) 0 0 (List.replicate P.length (-1)) []) r) (h2 : P.all (okP L) = false → r = eR 5) : Ev (fun k => spec_SortRun.l1 k L P [] 0 0 0 []) r := by
  have key := down_list P (P := fun i => ((P.drop i).all (okP L) = true → Ev (fun k => spec_SortRun.l2 k L P (bs (List.replicate P.length 0) (belt0 P.length)) (List.replicate L.length 0) 0 0 (List.replicate P.length (-1)) []) r) → ((P.drop i).all (okP L) = false → r = eR 5) →
      Ev (fun k => spec_SortRun.l1 k L P (bs (List.replicate P.length 0) (belt0 i)) (i : Int) 0 0 (List.replicate i (-1))) r) ?_ ?_
  · exact key h1 h2
  · intro g _
    rw [List.drop_length] at g
    refine Ev.step (fun k => ?_) (g rfl)
    simp only [spec_SortRun.l1, Int.toNat_natCast]
    rw [if_neg (by omega), if_pos (ige _), if_pos (by omega)]
  · intro i p hp hd ih g1 g2
    have hi := some_lt hp
    have hrp : rd P (i : Int) = p := rd_set hp
    rw [hd, List.all_cons] at g1 g2
    have hbl : (bs (List.replicate P.length 0) (belt0 i)).length = i := by rw [belt_bs]; simp
    by_cases a : 0 ≤ p ∧ p ≤ wrap64 ((L.length : Int) - 1)
    · have ho : okP L p = true := decide_eq_true a
      rw [ho, Bool.true_and] at g1 g2
      refine Ev.step (f := fun k => spec_SortRun.l1 k L P (bs (List.replicate P.length 0) (belt0 i) ++ [(⟨(i : Int), 0⟩ : Bt)]) (wrap64 ((i : Int) + 1)) 0 0 (List.replicate i (-1) ++ [-1])) (fun k => ?_) ?_
      · simp only [spec_SortRun.l1, hrp, l01In_eq, Option.bind_some]
        rw [if_pos (ilt hi), if_pos (ige _), if_pos (decide_eq_true a), if_pos (by omega), if_pos (by rw [List.length_replicate]; omega)]
      · rw [wrap_succ hi (by unfold maxLen; omega)]
        have e : bs (List.replicate P.length 0) (belt0 i) ++ [(⟨(i : Int), 0⟩ : Bt)] = bs (List.replicate P.length 0) (belt0 (i + 1)) := by rw [belt_bs, belt_bs, List.range_succ, List.map_append]; rfl
        rw [e, show List.replicate i (-1 : Int) ++ [-1] = List.replicate (i + 1) (-1) from (List.replicate_succ').symm]
        exact ih g1 g2
    · have ho : okP L p = false := decide_eq_false a
      rw [ho, Bool.false_and] at g2
      rw [g2 rfl]
      refine ev_succ (fun k => ?_)
      simp only [spec_SortRun.l1, hrp, l01In_eq, Option.bind_some]
      rw [if_pos (ilt hi), if_pos (ige _), if_neg (by simpa using a)]; rfl
theorem impl_long (h : ¬ (L.length ≤ 4096 ∧ P.length ≤ 4096)) : Ev (fun k => impl_SortRun.f k L P) (eR 2) := by
  have e : Ev (fun k => impl_SortRun.j0 k L P true) (eR 2) := ev_succ (fun k => by simp only [impl_SortRun.j0]; rw [if_pos trivial]; rfl)
  unfold impl_SortRun.f impl_Lane_21.f impl_isList_int.f
  simp only [Option.bind_some]
  by_cases a : (L.length : Int) ≤ 4096
  · refine ev_pos (decide_eq_true a) ?_
    rw [decide_eq_false (show ¬ (P.length : Int) ≤ 4096 by omega)]
    exact e
  · exact ev_neg (by simpa using a) e
theorem impl_short (h : L.length ≤ 4096 ∧ P.length ≤ 4096) (k0 : Ev (fun k => impl_SortRun.j0 k L P false) r) : Ev (fun k => impl_SortRun.f k L P) r := by
  unfold impl_SortRun.f impl_Lane_21.f impl_isList_int.f
  simp only [Option.bind_some]
  refine ev_pos (decide_eq_true (by omega)) ?_
  rw [decide_eq_true (show (P.length : Int) ≤ 4096 by omega)]
  exact k0
theorem impl_many (h : ¬ (L.length ≤ 9 ∧ P.length ≤ 100)) : Ev (fun k => impl_SortRun.j0 k L P false) (eR 9) := by
  have e : Ev (fun k => impl_SortRun.j1 k L P true) (eR 9) := ev_succ (fun k => by simp only [impl_SortRun.j1]; rw [if_pos trivial]; rfl)
  by_cases a : (L.length : Int) > 9
  · refine Ev.step (fun k => ?_) e
    simp only [impl_SortRun.j0]
    rw [if_neg (by simp), if_pos a]
  · refine Ev.step (fun k => ?_) e
    simp only [impl_SortRun.j0]
    rw [if_neg (by simp), if_neg a, decide_eq_true (show (P.length : Int) > 100 by omega)]
theorem impl_few (h : L.length ≤ 9 ∧ P.length ≤ 100) (k0 : Ev (fun k => impl_SortRun.j1 k L P false) r) : Ev (fun k => impl_SortRun.j0 k L P false) r := by
  refine Ev.step (fun k => ?_) k0
  simp only [impl_SortRun.j0]
  rw [if_neg (by simp), if_neg (by omega), decide_eq_false (by omega)]
theorem spec_long (h : ¬ (L.length ≤ 4096 ∧ P.length ≤ 4096)) : Ev (fun k => spec_SortRun.f k L P) (eR 2) := by
  have e : Ev (fun k => spec_SortRun.j0 k L P true) (eR 2) := ev_succ (fun k => by simp only [spec_SortRun.j0]; rw [if_pos trivial]; rfl)
  unfold spec_SortRun.f
  by_cases a : (L.length : Int) > 4096
  · exact ev_pos a e
  · refine ev_neg a ?_
    rw [decide_eq_true (show (P.length : Int) > 4096 by omega)]
    exact e
theorem spec_short (h : L.length ≤ 4096 ∧ P.length ≤ 4096) (k0 : Ev (fun k => spec_SortRun.j0 k L P false) r) : Ev (fun k => spec_SortRun.f k L P) r := by
  unfold spec_SortRun.f
  refine ev_neg (by omega) ?_
  rw [decide_eq_false (show ¬ (P.length : Int) > 4096 by omega)]
  exact k0
theorem spec_many (h : ¬ (L.length ≤ 9 ∧ P.length ≤ 100)) : Ev (fun k => spec_SortRun.j0 k L P false) (eR 9) := by
  have e : Ev (fun k => spec_SortRun.j1 k L P true) (eR 9) := ev_succ (fun k => by simp only [spec_SortRun.j1]; rw [if_pos trivial]; rfl)
  by_cases a : (L.length : Int) > 9
  · refine Ev.step (fun k => ?_) e
    simp only [spec_SortRun.j0]
    rw [if_neg (by simp), if_pos a]
  · refine Ev.step (fun k => ?_) e
    simp only [spec_SortRun.j0]
    rw [if_neg (by simp), if_neg a, decide_eq_true (show (P.length : Int) > 100 by omega)]
theorem spec_few (h : L.length ≤ 9 ∧ P.length ≤ 100) (k0 : Ev (fun k => spec_SortRun.l0 k L P [] 0) r) : Ev (fun k => spec_SortRun.j0 k L P false) r := by
  refine Ev.step (f := fun k => spec_SortRun.j1 k L P false) (fun k => ?_) (Ev.step (fun k => ?_) k0)
  · simp only [spec_SortRun.j0]
    rw [if_neg (by simp), if_neg (by omega), decide_eq_false (by omega)]
  · simp only [spec_SortRun.j1]
    rw [if_neg (by simp)]
theorem impl_in (h : L.length ≤ 9 ∧ P.length ≤ 100) (b0 : L.all okL = false → r = eR 1) (b1 : L.all okL = true → P.all (okP L) = false → r = eR 5)
    (b2 : L.all okL = true → P.all (okP L) = true → Ev (fun k => impl_SortRun.l1 k L P (belt0 P.length) (List.replicate L.length 0) (List.replicate P.length 0) 0 0 (List.replicate P.length (-1)) []) r) :
    Ev (fun k => impl_SortRun.j1 k L P false) r := by
  have e1 := bad_ev L (by unfold maxLen; omega)
  have e2 := from_ev P 0 (wrap64 ((L.length : Int) - 1)) (by unfold maxLen; omega)
  have hb : (L.any fun x => !okL x) = !(L.all okL) := by rw [List.all_eq_not_any_not]; simp
  have hf : (P.all fun p => decide (0 ≤ p ∧ p ≤ wrap64 ((L.length : Int) - 1))) = P.all (okP L) := rfl
  rw [hb] at e1
  rw [hf] at e2
  refine Ev.step (f := fun k => (slices_ContainsFunc_at_impl_SortRun_1.f k L).bind fun t164 => if t164 = true then some (0, 0, ([] : List Int), ([] : List Int), 1) else (impl_areFrom.f k P 0 (wrap64 ((L.length : Int) - 1))).bind fun t165 => if t165 = true then impl_SortRun.l0 k L P [] (List.replicate L.length 0) (List.replicate P.length 0) (P.length : Int) 0 0 0 (List.replicate P.length (-1)) else some (0, 0, ([] : List Int), ([] : List Int), 5)) (fun k => ?_) ?_
  · simp only [impl_SortRun.j1, slices_Repeat_int_int.f, Int.toNat_natCast]
    rw [if_neg (by simp), if_pos (show ([(-1 : Int)].length = 1 ∧ (0 : Int) ≤ (P.length : Int) ∧ (P.length : Int) ≤ 1048576) from ⟨rfl, by omega, by omega⟩)]
    simp only [Option.bind_some, if_pos (ige L.length), if_pos (ige P.length), if_pos (show L.length ≤ 35184372088832 by omega), if_pos (show P.length ≤ 35184372088832 by omega)]
    rfl
  · refine ev_bind e1 ?_
    cases hl : L.all okL with
    | false => rw [b0 hl]; exact ev_pos rfl (ev_some _)
    | true =>
      refine ev_neg (by simp) (ev_bind e2 ?_)
      cases hp : P.all (okP L) with
      | false => rw [b1 hl hp]; exact ev_neg (by simp) (ev_some _)
      | true => exact ev_pos rfl (fill_ev (by omega) (b2 hl hp))
end
theorem okL_iff {x : Ln} (h : okL x = true) : 1 ≤ x.f0 ∧ x.f0 ≤ 100 ∧ 1 ≤ x.f1 ∧ x.f1 ≤ 100 := by
  unfold okL at h
  rw [Bool.and_eq_true] at h
  have h1 := of_decide_eq_true h.1
  have h2 := of_decide_eq_true h.2
  exact ⟨h1.1, h1.2, h2.1, h2.2⟩
theorem sort_both (L : List Ln) (P : List Int) : ∃ r : Res, Ev (fun k => impl_SortRun.f k L P) r ∧ Ev (fun k => spec_SortRun.f k L P) r ∧ r.2.2.1.length ≤ 4096 ∧ r.2.2.2.1.length ≤ 4096 := by
  by_cases a : L.length ≤ 4096 ∧ P.length ≤ 4096
  · by_cases b : L.length ≤ 9 ∧ P.length ≤ 100
    · cases hl : L.all okL with
      | false =>
        refine ⟨eR 1, impl_short a (impl_few b (impl_in b (fun _ => rfl) (fun h => by rw [hl] at h; cases h) (fun h => by rw [hl] at h; cases h))), spec_short a (spec_few b (slanes_ev b.1 (fun h => by rw [hl] at h; cases h) (fun _ => rfl))), by simp [eR], by simp [eR]⟩
      | true =>
        cases hp : P.all (okP L) with
        | false =>
          refine ⟨eR 5, impl_short a (impl_few b (impl_in b (fun h => by rw [hl] at h; cases h) (fun _ _ => rfl) (fun _ h => by rw [hp] at h; cases h))), spec_short a (spec_few b (slanes_ev b.1 (fun _ => sparcels_ev b.1 b.2 (fun h => by rw [hp] at h; cases h) (fun _ => rfl)) (fun h => by rw [hl] at h; cases h))), by simp [eR], by simp [eR]⟩
        | true =>
          have V : Valid L P := ⟨b.1, fun x hx => okL_iff (List.all_eq_true.1 hl x hx), b.2, pl_of (fun p hp' => of_decide_eq_true (List.all_eq_true.1 hp p hp')) b.1⟩
          obtain ⟨held, rounds, out, rej, t, rec, hE, hS, hI⟩ := both_ev V 400 _ _ _ _ _ _ _ (inv_0 V) (by omega)
          have h3 := hI.h3
          have hng := hI.ng
          have hnl := neg_le out
          simp only [List.length_nil] at hng
          refine ⟨(t, rec, out, rej, 0), impl_short a (impl_few b (impl_in b (fun h => by rw [hl] at h; cases h) (fun _ h => by rw [hp] at h; cases h) (fun _ _ => hE))), spec_short a (spec_few b (slanes_ev b.1 (fun _ => sparcels_ev b.1 b.2 (fun _ => hS) (fun h => by rw [hp] at h; cases h)) (fun h => by rw [hl] at h; cases h))), ?_, ?_⟩
          · show out.length ≤ 4096; omega
          · show rej.length ≤ 4096; omega
    · exact ⟨eR 9, impl_short a (impl_many b), spec_short a (spec_many b), by simp [eR], by simp [eR]⟩
  · exact ⟨eR 2, impl_long a, spec_long a, by simp [eR], by simp [eR]⟩
end Go.Proofs.Ytakpcpbhlohmiaa.ZSortSK
