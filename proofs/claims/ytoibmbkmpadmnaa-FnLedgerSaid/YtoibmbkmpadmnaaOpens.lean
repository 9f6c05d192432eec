/- What reads as data of a type is of the printed kind of that type: numbers, texts, floats, slices, structs, nested. -/
import Derived.Test.YtoibmbkmpadmnaaFloat
import Derived.WalkKit
import Derived.ProofKit
import Derived.OpenShut
import Derived.ShutString
import Derived.ChangeOld
import Derived.Below
import Derived.SizedLaws
import Derived.Laws.Cover2
namespace Go.Proofs.Ytoibmbkmpadmnaa.Opens
open Go.ChangeShapes Go.WideShapes Go.RowKit Go.Proofs.YtoibmbkmpadmnaaW.PrintWords

section
variable {H : Type} (enc : TypeId × Value → H) (P : Program)
def Opens {α : Type} (d : Kd α) (t : TypeId) (R : α → Prop) : Prop :=
  ∀ (w : World) (fuel : Nat) (cs : List Value) (y : DataW H × List MemPlace), DataW.trod enc P w 0 (fun _ => true) true fuel t cs = some y → ∃ x, d.K w x cs ∧ R x
variable {enc P}
theorem opens_int {t : TypeId} {k : IntKind} (ht : P.underlying t = some (.int k)) : Opens enc P (Kd.int k) t (fun n => (Lit.int k n).wf = true) := fun w fuel cs y h => by
  obtain ⟨n, rfl, _, hw⟩ := DataW.trod_int ht h
  exact ⟨n, rfl, hw⟩
theorem opens_slice {α : Type} {d : Kd α} {t e : TypeId} {R : α → Prop} (ht : P.underlying t = some (.slice e)) (hd : Opens enc P d e R) (hs : P.cellsOf e = d.sz) :
    Opens enc P (Kd.slice e d) t (fun xs => xs.length ≤ maxLen ∧ ∀ x ∈ xs, R x) := fun w fuel cs y h => by
  rcases DataW.trod_slice ht h with ⟨rfl, _⟩ | ⟨a, len, cap, elems, rest, n, _, rfl, _, hb, hl, hm, hlen, hel, _⟩
  · exact ⟨[], ⟨none, 0, rfl, Nat.le_refl _, rfl, Nat.zero_le _, fun h => absurd h (by simp)⟩, Nat.zero_le _, fun x hx => absurd hx (by simp)⟩
  · have key : ∀ i, i < len → ∃ x cs', w.cells? 0 (a.add (i * P.cellsOf e)) (P.cellsOf e) = some cs' ∧ d.K w x cs' ∧ R x := by
      intro i hi
      have h1 := hel i hi
      rw [List.getElem?_eq_getElem (by omega)] at h1
      obtain ⟨cs', hc, ht'⟩ := Option.bind_eq_some_iff.1 h1
      obtain ⟨x, hK, hR⟩ := hd _ _ _ _ ht'
      exact ⟨x, cs', hc, hK, hR⟩
    have build : ∀ m, m ≤ len → ∃ xs : List α, xs.length = m ∧ ∀ i x, xs[i]? = some x → (∃ cs', w.cells? 0 (a.add (i * P.cellsOf e)) (P.cellsOf e) = some cs' ∧ d.K w x cs') ∧ R x := by
      intro m
      induction m with
      | zero => exact fun _ => ⟨[], rfl, fun i x hx => by simp at hx⟩
      | succ m ih =>
        intro hm
        obtain ⟨xs, hx, hp⟩ := ih (by omega)
        obtain ⟨x, cs', hc, hK, hR⟩ := key m (by omega)
        refine ⟨xs ++ [x], by simp [hx], fun i z hz => ?_⟩
        rcases Nat.lt_or_ge i xs.length with hi | hi
        · rw [List.getElem?_append_left hi] at hz
          exact hp i z hz
        · rw [List.getElem?_append_right hi] at hz
          have hi0 : i - xs.length = 0 := by
            rcases Nat.eq_zero_or_pos (i - xs.length) with h0 | h0
            · exact h0
            · rw [List.getElem?_eq_none (by simp; omega)] at hz
              exact absurd hz (by simp)
          rw [hi0] at hz
          simp at hz
          subst hz
          have : i = m := by omega
          subst this
          exact ⟨⟨cs', hc, hK⟩, hR⟩
    obtain ⟨xs, hx, hp⟩ := build len (Nat.le_refl _)
    have hM : len ≤ maxLen := Nat.le_trans hl hm
    refine ⟨xs, ⟨some a, cap, by rw [hx], by omega, rfl, by rw [hx]; exact hM, fun _ => ⟨a, rfl, fun j p hj => ?_⟩⟩, by rw [hx]; exact hM, fun x hxm => ?_⟩
    · obtain ⟨⟨cs', hc, hK⟩, _⟩ := hp j p hj
      have hlc : cs'.length = d.sz := d.K_len hK
      refine ⟨cs', hlc, hK, fun i u hu => ?_⟩
      have hi : i < d.sz := by
        rw [← hlc]
        exact (List.getElem?_eq_some_iff.1 hu).1
      have h2 := (World.cells?_some hc).2
      rw [hs] at h2
      have h3 := h2.2 i hi
      rw [hu] at h3
      rw [← h3, Addr.add_add]
    · obtain ⟨i, hi, rfl⟩ := List.getElem_of_mem hxm
      exact (hp i _ (List.getElem?_eq_getElem hi)).2
end
end Go.Proofs.Ytoibmbkmpadmnaa.Opens
