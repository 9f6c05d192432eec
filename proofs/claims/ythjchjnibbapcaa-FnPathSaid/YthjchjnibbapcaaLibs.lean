/- More loops: a list whose elements are right and differ from each other; a list that is gathered. -/
import Derived.Test.YthjchjnibbapcaaLib
namespace Go.Proofs.Ythjchjnibbapcaa.Lib
open Go.RowKit Go.Proofs.YthjchjnibbapcaaW.PrintWords Go.Proofs.YthjchjnibbapcaaW.PrintLast Go.Proofs.YthjchjnibbapcaaW.PrintMore

def twG {α : Type} (e : α → α → Bool) : List α → List α → Bool
  | _, [] => false
  | pre, x :: l => pre.any (e x) || twG e (pre ++ [x]) l
theorem tw_ev {α : Type} (l : List α) (e : α → α → Bool) (F : Nat → Int → Option Bool) (hl : l.length ≤ maxLen)
    (h : ∀ i x, l[i]? = some x → ∃ c : Nat → Option Bool, Ev c ((l.take i).any (e x)) ∧ ∀ k, F (k + 1) (i : Nat) = (c k).bind fun t => if t = true then some true else F k (wrap64 ((i : Nat) + 1)))
    (h0 : ∀ k, F (k + 1) (l.length : Nat) = some false) : Ev (fun k => F k 0) (twG e [] l) := by
  have key : Ev (fun k => F k ((0 : Nat) : Int)) (twG e (l.take 0) (l.drop 0)) := by
    refine down_list l (P := fun i => Ev (fun k => F k (i : Int)) (twG e (l.take i) (l.drop i))) ?_ ?_
    · rw [List.drop_length]; exact ev_succ h0
    · intro i x hx hd ih
      have hi := some_lt hx
      obtain ⟨c, hc, hF⟩ := h i x hx
      refine Ev.step hF (ev_bind hc ?_)
      rw [hd, twG, wrap_succ hi hl]
      rw [List.take_succ_eq_append_getElem hi, show l[i] = x from (List.getElem?_eq_some_iff.1 hx).2] at ih
      cases (l.take i).any (e x)
      · exact ev_neg (by decide) (by rw [Bool.false_or]; exact ih)
      · exact ev_pos rfl (ev_eq (ev_some _) (by simp))
  simpa using key
end Go.Proofs.Ythjchjnibbapcaa.Lib
