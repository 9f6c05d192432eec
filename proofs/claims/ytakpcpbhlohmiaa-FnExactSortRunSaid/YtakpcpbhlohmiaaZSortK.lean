/- Sorting: what one tick of the program's belt does; what stays true from tick to tick. -/
import Derived.Test.YtakpcpbhlohmiaaLib
import Derived.Test.YtakpcpbhlohmiaaSFnExactSortRun
namespace Go.Proofs.Ytakpcpbhlohmiaa.ZSortK
open Go.RowKit Go.Proofs.Ytakpcpbhlohmiaa.K Go.Proofs.Ytakpcpbhlohmiaa.Lib Go.Proofs.YtakpcpbhlohmiaaW.PrintWords Go.Proofs.YtakpcpbhlohmiaaW.PrintLast Go.Proofs.YtakpcpbhlohmiaaW.PrintMore
abbrev Ln := S32

/-! ### lanes that are emptied -/
def rst (t : Int) : List Ln → List Int → List Int
  | x :: L, h :: H => (if Int.tmod t x.f1 = 0 then 0 else h) :: rst t L H
  | [], H => H
  | _ :: _, [] => []
theorem rst_len (t : Int) : ∀ (L : List Ln) (H : List Int), (rst t L H).length = H.length
  | x :: L, h :: H => by simp [rst, rst_len t L H]
  | [], H => rfl
  | _ :: _, [] => rfl
theorem rst_get (t : Int) : ∀ (L : List Ln) (H : List Int) (k : Nat) (x : Ln) (h : Int), L[k]? = some x → H[k]? = some h → (rst t L H)[k]? = some (if Int.tmod t x.f1 = 0 then 0 else h)
  | y :: L, g :: H, 0, x, h, hx, hh => by
    have e1 : y = x := by simpa using hx
    have e2 : g = h := by simpa using hh
    subst e1; subst e2
    simp [rst]
  | y :: L, g :: H, k + 1, x, h, hx, hh => by
    have := rst_get t L H k x h (by simpa using hx) (by simpa using hh)
    simpa [rst] using this
  | [], H, k, x, h, hx, hh => by simp at hx
  | _ :: _, [], k, x, h, hx, hh => by simp at hh
theorem rd_set {l : List Int} {v : Nat} {c : Int} (h : l[v]? = some c) : rd l (v : Int) = c := getD_some h
theorem reset_ev {L : List Ln} {P belt rounds out rej : List Int} {t rec : Int} {r : Int × Int × List Int × List Int × Int} (hL : L.length ≤ 9) (hE : ∀ x ∈ L, 1 ≤ x.f1) :
    ∀ H : List Int, H.length = L.length → Ev (fun k => impl_SortRun.l2 k L P belt (rst t L H) rounds L (L.length : Int) (L.length : Int) t rec out rej) r →
      Ev (fun k => impl_SortRun.l2 k L P belt H rounds L (L.length : Int) ((0 : Nat) : Int) t rec out rej) r := by
  refine down_list L (P := fun i => ∀ H : List Int, H.length = L.length → Ev (fun k => impl_SortRun.l2 k L P belt (H.take i ++ rst t (L.drop i) (H.drop i)) rounds L (L.length : Int) (L.length : Int) t rec out rej) r →
      Ev (fun k => impl_SortRun.l2 k L P belt H rounds L (L.length : Int) (i : Int) t rec out rej) r) ?_ ?_
  · intro H hH h
    rw [List.drop_length, show L.length = H.length from hH.symm, List.take_length, List.drop_length] at h
    simpa [rst, hH] using h
  · intro i x hx hd ih H hH h
    have hi := some_lt hx
    have hrx : rd_T32 L (i : Int) = x := getD_some hx
    have hx1 := hE x (List.mem_of_getElem? hx)
    have hHi : H[i]? = some (H[i]'(by omega)) := List.getElem?_eq_getElem (by omega)
    have hdH : H.drop i = H[i]'(by omega) :: H.drop (i + 1) := List.drop_eq_getElem_cons (by omega)
    generalize hg : (H[i]'(by omega) : Int) = g at hHi hdH
    rw [hd, hdH, rst] at h
    by_cases c : Int.tmod t x.f1 = 0
    · rw [if_pos c] at h
      refine Ev.step (f := fun k => impl_SortRun.l2 k L P belt (H.set i 0) rounds L (L.length : Int) (wrap64 ((i : Int) + 1)) t rec out rej) (fun k => ?_) ?_
      · simp only [impl_SortRun.l2, hrx, Int.toNat_natCast]
        rw [if_pos (ilt hi), if_pos (ige _), if_pos (ilt hi), if_neg (by omega), if_pos c, if_pos (by omega)]
      · rw [wrap_succ hi (by unfold maxLen; omega)]
        refine ih (H.set i 0) (by rw [List.length_set]; exact hH) ?_
        have e1 : (H.set i 0).take (i + 1) = H.take i ++ [0] := by
          rw [List.take_succ_eq_append_getElem (by rw [List.length_set]; omega), List.getElem_set_self, List.take_set, List.set_eq_of_length_le (by rw [List.length_take]; omega)]
        have e2 : (H.set i 0).drop (i + 1) = H.drop (i + 1) := by rw [List.drop_set_of_lt (by omega)]
        rw [e1, e2, List.append_assoc]
        exact h
    · rw [if_neg c] at h
      refine Ev.step (f := fun k => impl_SortRun.l2 k L P belt H rounds L (L.length : Int) (wrap64 ((i : Int) + 1)) t rec out rej) (fun k => ?_) ?_
      · simp only [impl_SortRun.l2, hrx, Int.toNat_natCast]
        rw [if_pos (ilt hi), if_pos (ige _), if_pos (ilt hi), if_neg (by omega), if_neg c]
      · rw [wrap_succ hi (by unfold maxLen; omega)]
        refine ih H hH ?_
        rw [List.take_succ_eq_append_getElem (by omega), hg, List.append_assoc]
        exact h
/-! ### one tick -/
theorem tick_ev {L : List Ln} {P rest held rounds out rej : List Int} {t rec h c : Int} {v lane : Nat} {x : Ln} {r : Int × Int × List Int × List Int × Int}
    (hP : P[v]? = some (lane : Int)) (hx : L[lane]? = some x) (h1 : held.length = L.length) (h2 : rounds.length = P.length) (h3 : out.length = P.length) (hr : rest.length ≤ 1000) (hj : rej.length ≤ 1000)
    (ht : 0 ≤ t ∧ t ≤ 1000) (hc : 0 ≤ rec ∧ rec ≤ 1000) (hh : held[lane]? = some h) (hhb : 0 ≤ h ∧ h ≤ 1000) (hcc : rounds[v]? = some c) (hcb : 0 ≤ c ∧ c ≤ 3)
    (A : h < x.f0 → Ev (fun k => impl_SortRun.l1 k L P rest (held.set lane (h + 1)) rounds (t + 1) rec (out.set v t) rej) r)
    (B : ¬ h < x.f0 → c = 3 → Ev (fun k => impl_SortRun.l1 k L P rest held rounds (t + 1) rec out (rej ++ [(v : Int)])) r)
    (C : ¬ h < x.f0 → c ≠ 3 → Ev (fun k => impl_SortRun.l1 k L P (rest ++ [(v : Int)]) held (rounds.set v (c + 1)) (t + 1) (rec + 1) out rej) r) :
    Ev (fun k => impl_SortRun.l2 k L P ((v : Int) :: rest) held rounds L (L.length : Int) (L.length : Int) t rec out rej) r := by
  have hv := some_lt hP
  have hl := some_lt hx
  have e0 : rd ((v : Int) :: rest) 0 = (v : Int) := rfl
  have e1 : rd P (v : Int) = (lane : Int) := rd_set hP
  have e2 : rd held (lane : Int) = h := rd_set hh
  have e3 : rd rounds (v : Int) = c := rd_set hcc
  have e4 : rd_T32 L (lane : Int) = x := getD_some hx
  have w1 : wrap64 (t + 1) = t + 1 := w64 (by omega) (by omega)
  have w2 : wrap64 (rec + 1) = rec + 1 := w64 (by omega) (by omega)
  have w3 : wrap64 (h + 1) = h + 1 := w64 (by omega) (by omega)
  have w4 : wrap64 (c + 1) = c + 1 := w64 (by omega) (by omega)
  have d0 : ((v : Int) :: rest).drop (1 : Int).toNat = rest := rfl
  have key : ∀ k, impl_SortRun.l2 (k + 1) L P ((v : Int) :: rest) held rounds L (L.length : Int) (L.length : Int) t rec out rej =
      if h < x.f0 then impl_SortRun.l1 k L P rest (held.set lane (h + 1)) rounds (t + 1) rec (out.set v t) rej
      else if c = 3 then impl_SortRun.l1 k L P rest held rounds (t + 1) rec out (rej ++ [(v : Int)])
      else impl_SortRun.l1 k L P (rest ++ [(v : Int)]) held (rounds.set v (c + 1)) (t + 1) (rec + 1) out rej := by
    intro k
    simp only [impl_SortRun.l2, e0, e1, e2, e3, e4, w1, w2, w3, w4, d0, Int.toNat_natCast, Option.bind_some]
    rw [if_neg (by omega), if_pos (by simp only [List.length_cons]; omega), if_pos (ige _), if_pos (ilt hv), if_pos (by simp only [List.length_cons]; omega), if_pos (ige _), if_pos (by omega), if_pos (ilt hl)]
    by_cases a : h < x.f0
    · rw [if_pos a, if_pos a, if_pos (by omega)]
    · rw [if_neg a, if_neg a, if_pos (by omega)]
      by_cases b : c = 3
      · rw [if_pos b, if_pos b, if_pos (by omega)]
      · rw [if_neg b, if_neg b, if_pos (by omega)]
  refine Ev.step key ?_
  by_cases a : h < x.f0
  · exact ev_pos a (A a)
  · refine ev_neg a ?_
    by_cases b : c = 3
    · exact ev_pos b (B a b)
    · exact ev_neg b (C a b)
end Go.Proofs.Ytakpcpbhlohmiaa.ZSortK
