/- Plain facts for the statements about printed functions: rounds, loops over a list, one whole number's wrap. -/
import Derived.Test.YtoibmbkmpadmnaaWWords
import Derived.Test.YtoibmbkmpadmnaaWMore
namespace Go.Proofs.Ytoibmbkmpadmnaa.Lib
open Go.RowKit Go.Proofs.YtoibmbkmpadmnaaW.PrintWords Go.Proofs.YtoibmbkmpadmnaaW.PrintLast Go.Proofs.YtoibmbkmpadmnaaW.PrintMore

theorem w64 {x : Int} (h0 : -9223372036854775808 ≤ x) (h1 : x ≤ 9223372036854775807) : wrap64 x = x := by
  unfold wrap64; omega
theorem wrap_succ {i n : Nat} (h : i < n) (hn : n ≤ maxLen) : wrap64 ((i : Int) + 1) = ((i + 1 : Nat) : Int) := by
  unfold maxLen at hn
  rw [w64 (by omega) (by omega)]; omega
theorem getD_some {α : Type} {l : List α} {i : Nat} {x z : α} (h : l[i]? = some x) : l.getD ((i : Int)).toNat z = x := by
  rw [Int.toNat_natCast, List.getD_eq_getElem?_getD, h]; rfl
theorem some_lt {α : Type} {l : List α} {i : Nat} {x : α} (h : l[i]? = some x) : i < l.length := (List.getElem?_eq_some_iff.1 h).1
theorem ilt {a b : Nat} (h : a < b) : (a : Int) < (b : Int) := Int.ofNat_lt.2 h
theorem ige (a : Nat) : (0 : Int) ≤ (a : Int) := Int.natCast_nonneg a
theorem down {P : Nat → Prop} {n : Nat} (hend : P n) (hstep : ∀ i, i < n → P (i + 1) → P i) : ∀ i, i ≤ n → P i := by
  have key : ∀ d i, i + d = n → P i := by
    intro d
    induction d with
    | zero => intro i h; have : i = n := by omega
              subst this; exact hend
    | succ d ih => intro i h; exact hstep i (by omega) (ih (i + 1) (by omega))
  intro i hi
  exact key (n - i) i (by omega)
theorem down_list {α : Type} (l : List α) {P : Nat → Prop} (hend : P l.length) (hstep : ∀ i x, l[i]? = some x → l.drop i = x :: l.drop (i + 1) → P (i + 1) → P i) : P 0 :=
  down hend (fun i hi h => hstep i l[i] (List.getElem?_eq_getElem hi) (List.drop_eq_getElem_cons hi) h) 0 (Nat.zero_le _)

theorem ev_eq {α : Type} {g : Nat → Option α} {a b : α} (h : Ev g a) (e : a = b) : Ev g b := e ▸ h
theorem ev_const {α : Type} {g : Nat → Option α} {a : α} (h : ∀ k, g k = some a) : Ev g a := ⟨0, fun k _ => h k⟩
theorem ev_succ {α : Type} {g : Nat → Option α} {a : α} (h : ∀ k, g (k + 1) = some a) : Ev g a := ⟨1, fun k hk => by obtain ⟨m, rfl⟩ : ∃ m, k = m + 1 := ⟨k - 1, by omega⟩; exact h m⟩
theorem ev_bind {α β : Type} {g : Nat → Option α} {f : Nat → α → Option β} {a : α} {r : β} (h : Ev g a) (k : Ev (fun n => f n a) r) : Ev (fun n => (g n).bind (f n)) r := Ev.bind h k
theorem ev_same {α : Type} {g f : Nat → Option α} {r : α} (h : Ev f r) (e : ∀ k, g k = f k) : Ev g r := Ev.congr e h
theorem ev_some {α : Type} (r : α) : Ev (fun _ => some r) r := Ev.now r

theorem ev_pos {α : Type} {c : Prop} [Decidable c] {f g : Nat → Option α} {r : α} (h : c) (k : Ev f r) : Ev (fun n => if c then f n else g n) r := ev_same k (fun _ => if_pos h)
theorem ev_neg {α : Type} {c : Prop} [Decidable c] {f g : Nat → Option α} {r : α} (h : ¬ c) (k : Ev g r) : Ev (fun n => if c then f n else g n) r := ev_same k (fun _ => if_neg h)
/-! ### a list that is copied element by element -/
/-! ### a test of every element -/
/-! ### the first element that a test takes -/
def fidx {α : Type} (q : α → Bool) : List α → Int → Int
  | [], _ => -1
  | x :: l, i => if q x = true then i else fidx q l (i + 1)
theorem fidx_any {α : Type} (q : α → Bool) : ∀ (l : List α) (i : Int), 0 ≤ i → (decide (fidx q l i ≥ 0) = l.any q)
  | [], i, _ => by simp [fidx]
  | x :: l, i, h => by
    unfold fidx
    by_cases hq : q x = true
    · rw [if_pos hq, List.any_cons, hq, Bool.true_or]; exact decide_eq_true h
    · rw [if_neg hq, List.any_cons, Bool.eq_false_iff.2 hq, Bool.false_or]; exact fidx_any q l (i + 1) (by omega)
theorem index_ev {α : Type} (l : List α) (q : α → Bool) (F : Nat → Int → Option Int) (c : Nat → α → Option Bool) (hn : l.length ≤ maxLen)
    (hc : ∀ x, x ∈ l → Ev (fun k => c k x) (q x))
    (h : ∀ k i x, l[i]? = some x → F (k + 1) (i : Nat) = (c k x).bind fun t => if t = true then some ((i : Nat) : Int) else F k (wrap64 ((i : Nat) + 1)))
    (h0 : ∀ k, F (k + 1) (l.length : Nat) = some (-1)) : Ev (fun k => F k 0) (fidx q l 0) := by
  have key : Ev (fun k => F k ((0 : Nat) : Int)) (fidx q (l.drop 0) ((0 : Nat) : Int)) := by
    refine down_list l (P := fun i => Ev (fun k => F k (i : Int)) (fidx q (l.drop i) (i : Int))) ?_ ?_
    · rw [List.drop_length]; exact ev_succ h0
    · intro i x hx hd ih
      refine Ev.step (fun k => h k i x hx) (ev_bind (hc x (List.mem_of_getElem? hx)) ?_)
      rw [hd]
      unfold fidx
      by_cases hq : q x = true
      · rw [hq, if_pos rfl]; exact ev_const (fun k => by rw [if_pos rfl])
      · rw [if_neg hq, Bool.eq_false_iff.2 hq]
        refine ev_same (ev_eq ih (by push_cast; rfl)) (fun k => ?_)
        rw [if_neg (by simp), wrap_succ (some_lt hx) hn]
  simpa using key
theorem index_ev' {α : Type} (l : List α) (q : α → Bool) (F : Nat → Int → Option Int) (hn : l.length ≤ maxLen)
    (h : ∀ k i x, l[i]? = some x → F (k + 1) (i : Nat) = if q x = true then some ((i : Nat) : Int) else F k (wrap64 ((i : Nat) + 1)))
    (h0 : ∀ k, F (k + 1) (l.length : Nat) = some (-1)) : Ev (fun k => F k 0) (fidx q l 0) :=
  index_ev l q F (fun _ x => some (q x)) hn (fun x _ => ev_some _) (fun k i x hx => by rw [h k i x hx]; rfl) h0
theorem any_of_index {α : Type} {l : List α} {q : α → Bool} {g : Nat → Option Int} (h : Ev g (fidx q l 0)) : Ev (fun k => (g k).bind fun t => some (decide (t ≥ 0))) (l.any q) :=
  ev_bind h (ev_eq (ev_some _) (fidx_any q l 0 (by omega)))

/-! ### two loops that go side by side; a loop that ends -/
def run {α S R : Type} (step : Int → α → S → S ⊕ R) (fin : S → R) : List α → Int → S → R
  | [], _, s => fin s
  | x :: l, i, s => match step i x s with
    | .inl s' => run step fin l (i + 1) s'
    | .inr r => r
end Go.Proofs.Ytoibmbkmpadmnaa.Lib
