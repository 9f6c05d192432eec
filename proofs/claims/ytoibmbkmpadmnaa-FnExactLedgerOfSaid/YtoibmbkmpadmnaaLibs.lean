/- More loops: a list whose elements are right and differ from each other; a list that is gathered. -/
import Derived.Test.YtoibmbkmpadmnaaLib
namespace Go.Proofs.Ytoibmbkmpadmnaa.Lib
open Go.RowKit Go.Proofs.YtoibmbkmpadmnaaW.PrintWords Go.Proofs.YtoibmbkmpadmnaaW.PrintLast Go.Proofs.YtoibmbkmpadmnaaW.PrintMore

theorem back_ev {α : Type} (l : List α) (i : Nat) (e : α → Bool) (F : Nat → Int → Option Bool) (r : Bool) (hi : i ≤ l.length) (hn : l.length ≤ maxLen)
    (h : ∀ k j y, j < i → l[j]? = some y → F (k + 1) (j : Nat) = if e y = true then some false else F k (wrap64 ((j : Nat) + 1)))
    (h0 : Ev (fun k => F k (i : Nat)) r) : Ev (fun k => F k 0) (!(l.take i).any e && r) := by
  have key : Ev (fun k => F k ((0 : Nat) : Int)) (!((l.take i).drop 0).any e && r) := by
    refine down (n := i) (P := fun j => Ev (fun k => F k (j : Int)) (!((l.take i).drop j).any e && r)) ?_ ?_ 0 (Nat.zero_le _)
    · rw [List.drop_eq_nil_of_le (by rw [List.length_take]; omega)]
      simpa using h0
    · intro j hj ih
      have hjl : j < l.length := by omega
      refine Ev.step (fun k => h k j l[j] hj (List.getElem?_eq_getElem hjl)) ?_
      rw [wrap_succ hjl hn, List.drop_eq_getElem_cons (by rw [List.length_take]; omega), List.any_cons, List.getElem_take]
      by_cases he : e l[j] = true
      · rw [he]; exact ev_pos rfl (ev_eq (ev_some _) (by simp))
      · rw [Bool.eq_false_iff.2 he, Bool.false_or]; exact ev_neg (by decide) ih
  simpa using key
end Go.Proofs.Ytoibmbkmpadmnaa.Lib
