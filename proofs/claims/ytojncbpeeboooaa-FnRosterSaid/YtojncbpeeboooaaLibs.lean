/- More loops: a list whose elements are right and differ from each other; a list that is gathered. -/
import Derived.Test.YtojncbpeeboooaaLib
namespace Go.Proofs.Ytojncbpeeboooaa.Lib
open Go.RowKit Go.Proofs.YtojncbpeeboooaaW.PrintWords Go.Proofs.YtojncbpeeboooaaW.PrintLast Go.Proofs.YtojncbpeeboooaaW.PrintMore

def twG {α : Type} (e : α → α → Bool) : List α → List α → Bool
  | _, [] => false
  | pre, x :: l => pre.any (e x) || twG e (pre ++ [x]) l
def odG {α : Type} (q : α → Bool) (e : α → α → Bool) : List α → List α → Bool
  | _, [] => true
  | pre, x :: l => q x && (!(pre.any (e x)) && odG q e (pre ++ [x]) l)
theorem odG_eq {α : Type} (q : α → Bool) (e : α → α → Bool) : ∀ (l pre : List α), odG q e pre l = (l.all q && !twG e pre l)
  | [], _ => by simp [odG, twG]
  | x :: l, pre => by
    rw [odG, twG, odG_eq q e l, List.all_cons]
    cases q x <;> cases pre.any (e x) <;> cases l.all q <;> simp
theorem twG_map {α β : Type} (f : α → β) (e : β → β → Bool) : ∀ (l pre : List α), twG (fun x y => e (f x) (f y)) pre l = twG e (pre.map f) (l.map f)
  | [], _ => rfl
  | x :: l, pre => by
    rw [twG, List.map_cons, twG, twG_map f e l, List.map_append, List.any_map]
    rfl
theorem od_ev {α : Type} (l : List α) (q : α → Bool) (e : α → α → Bool) (F : Nat → Int → Option Bool)
    (h : ∀ i x, l[i]? = some x → ∀ r, Ev (fun k => F k ((i + 1 : Nat) : Int)) r → Ev (fun k => F k (i : Int)) (q x && (!(l.take i).any (e x) && r)))
    (h0 : Ev (fun k => F k (l.length : Nat)) true) : Ev (fun k => F k 0) (l.all q && !twG e [] l) := by
  rw [← odG_eq]
  have key : Ev (fun k => F k ((0 : Nat) : Int)) (odG q e (l.take 0) (l.drop 0)) := by
    refine down_list l (P := fun i => Ev (fun k => F k (i : Int)) (odG q e (l.take i) (l.drop i))) ?_ ?_
    · rw [List.drop_length]; exact h0
    · intro i x hx hd ih
      have := h i x hx _ ih
      rw [hd, odG]
      rw [List.take_succ_eq_append_getElem (some_lt hx), show l[i]'(some_lt hx) = x from (List.getElem?_eq_some_iff.1 hx).2] at this
      exact this
  simpa using key
theorem back_ev {α : Type} (l : List α) (i : Nat) (e : α → Bool) (F : Nat → Int → Option Bool) (r : Bool) (hi : i ≤ l.length) (hn : l.length ≤ maxLen)
    (h : ∀ k j y, j < i → l[j]? = some y → F (k + 1) (j : Nat) = if e y = true then some false else F k (wrap64 ((j : Nat) + 1)))
    (h0 : Ev (fun k => F k (i : Nat)) r) : Ev (fun k => F k 0) (!(l.take i).any e && r) := by
  have key : Ev (fun k => F k ((0 : Nat) : Int)) (!((l.take i).drop 0).any e && r) := by
    refine down (n := i) (P := fun j => Ev (fun k => F k (j : Int)) (!((l.take i).drop j).any e && r)) ?_ ?_ 0 (Nat.zero_le _)
    · rw [List.drop_eq_nil_of_le (by rw [List.length_take]; omega)]
      simpa using h0
    · intro j hj ih
      have hjl : j < l.length := by omega
      refine Ev.step (fun k => h k j l[j] hj (List.getElem?_eq_getElem hjl)) ?_
      rw [wrap_succ hjl hn, List.drop_eq_getElem_cons (by rw [List.length_take]; omega), List.any_cons, List.getElem_take]
      by_cases he : e l[j] = true
      · rw [he]; exact ev_pos rfl (ev_eq (ev_some _) (by simp))
      · rw [Bool.eq_false_iff.2 he, Bool.false_or]; exact ev_neg (by decide) ih
  simpa using key
theorem gather_ev {α β : Type} (l : List α) (q : α → Bool) (f : α → β) (F : Nat → List β → Int → Option Bool) (r : Bool)
    (h : ∀ i x names, l[i]? = some x → names.length = i → (q x = true → ∀ r, Ev (fun k => F k (names ++ [f x]) ((i + 1 : Nat) : Int)) r → Ev (fun k => F k names (i : Int)) r) ∧ (q x = false → Ev (fun k => F k names (i : Int)) false))
    (h0 : Ev (fun k => F k (l.map f) (l.length : Nat)) r) : Ev (fun k => F k [] 0) (l.all q && r) := by
  have key : Ev (fun k => F k ((l.take 0).map f) ((0 : Nat) : Int)) ((l.drop 0).all q && r) := by
    refine down_list l (P := fun i => Ev (fun k => F k ((l.take i).map f) (i : Int)) ((l.drop i).all q && r)) ?_ ?_
    · rw [List.drop_length, List.take_length]; simpa using h0
    · intro i x hx hd ih
      have hi := some_lt hx
      obtain ⟨h1, h2⟩ := h i x ((l.take i).map f) hx (by rw [List.length_map, List.length_take]; omega)
      rw [hd, List.all_cons]
      rw [List.take_succ_eq_append_getElem hi, show l[i] = x from (List.getElem?_eq_some_iff.1 hx).2, List.map_append] at ih
      cases hq : q x
      · rw [Bool.false_and, Bool.false_and]; exact h2 hq
      · rw [Bool.true_and]; exact h1 hq _ ih
  simpa using key
theorem tw_ev {α : Type} (l : List α) (e : α → α → Bool) (F : Nat → Int → Option Bool) (hl : l.length ≤ maxLen)
    (h : ∀ i x, l[i]? = some x → ∃ c : Nat → Option Bool, Ev c ((l.take i).any (e x)) ∧ ∀ k, F (k + 1) (i : Nat) = (c k).bind fun t => if t = true then some true else F k (wrap64 ((i : Nat) + 1)))
    (h0 : ∀ k, F (k + 1) (l.length : Nat) = some false) : Ev (fun k => F k 0) (twG e [] l) := by
  have key : Ev (fun k => F k ((0 : Nat) : Int)) (twG e (l.take 0) (l.drop 0)) := by
    refine down_list l (P := fun i => Ev (fun k => F k (i : Int)) (twG e (l.take i) (l.drop i))) ?_ ?_
    · rw [List.drop_length]; exact ev_succ h0
    · intro i x hx hd ih
      have hi := some_lt hx
      obtain ⟨c, hc, hF⟩ := h i x hx
      refine Ev.step hF (ev_bind hc ?_)
      rw [hd, twG, wrap_succ hi hl]
      rw [List.take_succ_eq_append_getElem hi, show l[i] = x from (List.getElem?_eq_some_iff.1 hx).2] at ih
      cases (l.take i).any (e x)
      · exact ev_neg (by decide) (by rw [Bool.false_or]; exact ih)
      · exact ev_pos rfl (ev_eq (ev_some _) (by simp))
  simpa using key
end Go.Proofs.Ytojncbpeeboooaa.Lib
