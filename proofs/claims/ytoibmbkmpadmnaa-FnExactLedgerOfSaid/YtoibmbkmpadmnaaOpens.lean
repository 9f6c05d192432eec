/- What reads as data of a type is of the printed kind of that type: numbers, texts, floats, slices, structs, nested. -/
import Derived.Test.YtoibmbkmpadmnaaFloat
import Derived.WalkKit
import Derived.ProofKit
import Derived.OpenShut
import Derived.ShutString
import Derived.ChangeOld
import Derived.Below
import Derived.SizedLaws
import Derived.Laws.Cover2
namespace Go.Proofs.Ytoibmbkmpadmnaa.Opens
open Go.ChangeShapes Go.WideShapes Go.RowKit Go.Proofs.YtoibmbkmpadmnaaW.PrintWords

section
variable {H : Type} (enc : TypeId × Value → H) (P : Program)
def Opens {α : Type} (d : Kd α) (t : TypeId) (R : α → Prop) : Prop :=
  ∀ (w : World) (fuel : Nat) (cs : List Value) (y : DataW H × List MemPlace), DataW.trod enc P w 0 (fun _ => true) true fuel t cs = some y → ∃ x, d.K w x cs ∧ R x
def OpensFs {α : Type} (d : Kd α) (fs : List Field) (off : Nat) (R : α → Prop) : Prop :=
  ∀ (w : World) (n : Nat) (cs : List Value), cs.length = off + d.sz → (∀ f ∈ fs, ∃ y, DataW.trod enc P w 0 (fun _ => true) true n f.type ((cs.drop f.offset).take (P.cellsOf f.type)) = some y) → ∃ x, d.K w x (cs.drop off) ∧ R x
variable {enc P}
theorem opens_int {t : TypeId} {k : IntKind} (ht : P.underlying t = some (.int k)) : Opens enc P (Kd.int k) t (fun n => (Lit.int k n).wf = true) := fun w fuel cs y h => by
  obtain ⟨n, rfl, _, hw⟩ := DataW.trod_int ht h
  exact ⟨n, rfl, hw⟩
theorem opens_string {t : TypeId} (ht : P.underlying t = some .string) : Opens enc P Kd.string t (fun s => s.size ≤ maxLen) := fun w fuel cs y h => by
  obtain ⟨s, rfl, _, hs⟩ := DataW.trod_string ht h
  exact ⟨s, rfl, hs⟩
theorem opens_slice {α : Type} {d : Kd α} {t e : TypeId} {R : α → Prop} (ht : P.underlying t = some (.slice e)) (hd : Opens enc P d e R) (hs : P.cellsOf e = d.sz) :
    Opens enc P (Kd.slice e d) t (fun xs => xs.length ≤ maxLen ∧ ∀ x ∈ xs, R x) := fun w fuel cs y h => by
  rcases DataW.trod_slice ht h with ⟨rfl, _⟩ | ⟨a, len, cap, elems, rest, n, _, rfl, _, hb, hl, hm, hlen, hel, _⟩
  · exact ⟨[], ⟨none, 0, rfl, Nat.le_refl _, rfl, Nat.zero_le _, fun h => absurd h (by simp)⟩, Nat.zero_le _, fun x hx => absurd hx (by simp)⟩
  · have key : ∀ i, i < len → ∃ x cs', w.cells? 0 (a.add (i * P.cellsOf e)) (P.cellsOf e) = some cs' ∧ d.K w x cs' ∧ R x := by
      intro i hi
      have h1 := hel i hi
      rw [List.getElem?_eq_getElem (by omega)] at h1
      obtain ⟨cs', hc, ht'⟩ := Option.bind_eq_some_iff.1 h1
      obtain ⟨x, hK, hR⟩ := hd _ _ _ _ ht'
      exact ⟨x, cs', hc, hK, hR⟩
    have build : ∀ m, m ≤ len → ∃ xs : List α, xs.length = m ∧ ∀ i x, xs[i]? = some x → (∃ cs', w.cells? 0 (a.add (i * P.cellsOf e)) (P.cellsOf e) = some cs' ∧ d.K w x cs') ∧ R x := by
      intro m
      induction m with
      | zero => exact fun _ => ⟨[], rfl, fun i x hx => by simp at hx⟩
      | succ m ih =>
        intro hm
        obtain ⟨xs, hx, hp⟩ := ih (by omega)
        obtain ⟨x, cs', hc, hK, hR⟩ := key m (by omega)
        refine ⟨xs ++ [x], by simp [hx], fun i z hz => ?_⟩
        rcases Nat.lt_or_ge i xs.length with hi | hi
        · rw [List.getElem?_append_left hi] at hz
          exact hp i z hz
        · rw [List.getElem?_append_right hi] at hz
          have hi0 : i - xs.length = 0 := by
            rcases Nat.eq_zero_or_pos (i - xs.length) with h0 | h0
            · exact h0
            · rw [List.getElem?_eq_none (by simp; omega)] at hz
              exact absurd hz (by simp)
          rw [hi0] at hz
          simp at hz
          subst hz
          have : i = m := by omega
          subst this
          exact ⟨⟨cs', hc, hK⟩, hR⟩
    obtain ⟨xs, hx, hp⟩ := build len (Nat.le_refl _)
    have hM : len ≤ maxLen := Nat.le_trans hl hm
    refine ⟨xs, ⟨some a, cap, by rw [hx], by omega, rfl, by rw [hx]; exact hM, fun _ => ⟨a, rfl, fun j p hj => ?_⟩⟩, by rw [hx]; exact hM, fun x hxm => ?_⟩
    · obtain ⟨⟨cs', hc, hK⟩, _⟩ := hp j p hj
      have hlc : cs'.length = d.sz := d.K_len hK
      refine ⟨cs', hlc, hK, fun i u hu => ?_⟩
      have hi : i < d.sz := by
        rw [← hlc]
        exact (List.getElem?_eq_some_iff.1 hu).1
      have h2 := (World.cells?_some hc).2
      rw [hs] at h2
      have h3 := h2.2 i hi
      rw [hu] at h3
      rw [← h3, Addr.add_add]
    · obtain ⟨i, hi, rfl⟩ := List.getElem_of_mem hxm
      exact (hp i _ (List.getElem?_eq_getElem hi)).2
theorem fs_one {α : Type} {d : Kd α} {f : Field} {off : Nat} {R : α → Prop} (hf : f.offset = off) (hd : Opens enc P d f.type R) (hs : P.cellsOf f.type = d.sz) : OpensFs enc P d [f] off R := fun w n cs hl h => by
  obtain ⟨y, hy⟩ := h f (List.mem_singleton_self f)
  rw [hf, hs, List.take_of_length_le (by rw [List.length_drop]; omega)] at hy
  exact hd _ _ _ _ hy
theorem fs_cons {α β : Type} {a : Kd α} {b : Kd β} {f : Field} {fs : List Field} {off : Nat} {R : α → Prop} {S : β → Prop} (hf : f.offset = off) (hd : Opens enc P a f.type R) (hs : P.cellsOf f.type = a.sz) (h2 : OpensFs enc P b fs (off + a.sz) S) :
    OpensFs enc P (Kd.pair a b) (f :: fs) off (fun x => R x.1 ∧ S x.2) := fun w n cs hl h => by
  have hl' : cs.length = off + (a.sz + b.sz) := hl
  obtain ⟨y, hy⟩ := h f List.mem_cons_self
  rw [hf, hs] at hy
  obtain ⟨x, hK, hR⟩ := hd _ _ _ _ hy
  obtain ⟨z, hZ, hS⟩ := h2 w n cs (by omega) (fun g hg => h g (List.mem_cons_of_mem _ hg))
  refine ⟨(x, z), ⟨(cs.drop off).take a.sz, cs.drop (off + a.sz), ?_, hK, hZ⟩, hR, hS⟩
  rw [← List.drop_drop, List.take_append_drop]
theorem opens_struct {α : Type} {d : Kd α} {t : TypeId} {fs : Array Field} {R : α → Prop} (ht : P.underlying t = some (.struct fs)) (hfs : OpensFs enc P d fs.toList 0 R) (hc : P.cellsOf t = d.sz) : Opens enc P d t R := fun w fuel cs y h => by
  obtain ⟨xs, n, _, _, hl, hx, hf⟩ := DataW.trod_struct ht h
  obtain ⟨x, hK, hR⟩ := hfs w n cs (by omega) (fun f hm => by
    obtain ⟨i, hi, rfl⟩ := List.getElem_of_mem hm
    have hi' : i < fs.size := by simpa using hi
    have h1 := hf i fs[i] (Array.getElem?_eq_getElem hi')
    rw [List.getElem?_eq_getElem (by omega)] at h1
    exact ⟨_, by simpa using h1⟩)
  exact ⟨x, by simpa using hK, hR⟩
theorem opens_iso {α β : Type} {d : Kd α} {f : β → α} {t : TypeId} {R : α → Prop} (g : α → β) (hg : ∀ p, f (g p) = p) (h : Opens enc P d t R) : Opens enc P (Kd.iso d f) t (fun x => R (f x)) := fun w fuel cs y hy => by
  obtain ⟨x, hK, hR⟩ := h _ _ _ _ hy
  exact ⟨g x, (by show d.K _ (f (g x)) _; rw [hg]; exact hK), (by show R (f (g x)); rw [hg]; exact hR)⟩
end
end Go.Proofs.Ytoibmbkmpadmnaa.Opens
