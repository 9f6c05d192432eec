-- made by pp.py (wip/tools) out of the translation; Lean checks it
import Derived.Maps.OwnSet
import Derived.Maps.OwnOps
import Derived.Test.YtoibmbkmpadmnaaV0
import Derived.Test.YtoibmbkmpadmnaaV3
import Derived.Test.YtoibmbkmpadmnaaV4
import Derived.Test.YtoibmbkmpadmnaaV5
namespace Go.Proofs.Ytoibmbkmpadmnaa.V
open Go.RowKit Go.Proofs.YtoibmbkmpadmnaaW.PrintWords Go.Proofs.YtoibmbkmpadmnaaW.PrintLast Go.Proofs.YtoibmbkmpadmnaaW.PrintMore
attribute [local go_sem] max2_int min2_int max_two min_two max_three min_three max_four min_four   -- for this text's walks alone
set_option linter.unusedVariables false
set_option linter.unusedSimpArgs false

/-! ### impl_EventsOK: function 25 -/
/- What memory holds, as a list of things apart from one another: each has blocks of its own (P), and says something about them (T). -/
structure Ass where
  P : Nat → Prop
  T : World → Prop
  st : ∀ W W' : World, T W → (∀ k, P k → k < W.heap.size → W'.heap[k]? = W.heap[k]?) → T W'
structure Hp (w0 : World) (L : List Ass) (W : World) : Prop where
  below : Below w0.heap.size w0 W
  hold : ∀ (i : Nat) a, L[i]? = some a → a.T W
  dom : ∀ (i : Nat) a, L[i]? = some a → ∀ k, a.P k → w0.heap.size ≤ k ∧ k < W.heap.size
  dis : ∀ (i j : Nat) a b, i ≠ j → L[i]? = some a → L[j]? = some b → ∀ k, a.P k → ¬ b.P k
section
variable {w0 : World} {L : List Ass} {W W1 : World}
theorem Hp.start (w0 : World) : Hp w0 [] w0 := ⟨Below.refl _ _, fun i a h => by simp at h, fun i a h => by simp at h, fun i j a b _ h => by simp at h⟩
theorem Hp.upd (h : Hp w0 L W) (i : Nat) {a b : Ass} (hi : L[i]? = some a) (hB : Below w0.heap.size w0 W1) (hs : W.heap.size ≤ W1.heap.size) (hk : ∀ k, k < W.heap.size → ¬ a.P k → W1.heap[k]? = W.heap[k]?) (hT : b.T W1) (hP : ∀ k, b.P k → (a.P k ∨ W.heap.size ≤ k) ∧ k < W1.heap.size) : Hp w0 (L.set i b) W1 := by
  have hlt : i < L.length := (List.getElem?_eq_some_iff.1 hi).1
  have look : ∀ (j : Nat) (c : Ass), (L.set i b)[j]? = some c → (j = i ∧ c = b) ∨ (j ≠ i ∧ L[j]? = some c) := by
    intro j c hc
    rw [List.getElem?_set] at hc
    by_cases e : i = j
    · subst e
      rw [if_pos rfl, if_pos hlt] at hc
      injection hc with hc
      exact .inl ⟨rfl, hc.symm⟩
    · rw [if_neg e] at hc
      exact .inr ⟨fun h => e h.symm, hc⟩
  refine ⟨hB, fun j c hc => ?_, fun j c hc k hkc => ?_, fun j j' c c' hj hc hc' k hkc hkc' => ?_⟩
  · rcases look j c hc with ⟨_, rfl⟩ | ⟨hj, hc⟩
    · exact hT
    · exact c.st W W1 (h.hold j c hc) (fun k hkc hlt => hk k hlt (fun ha => h.dis i j a c (fun e => hj e.symm) hi hc k ha hkc))
  · rcases look j c hc with ⟨_, rfl⟩ | ⟨hj, hc⟩
    · obtain ⟨h1, h2⟩ := hP k hkc
      refine ⟨?_, h2⟩
      rcases h1 with h1 | h1
      · exact (h.dom i a hi k h1).1
      · exact Nat.le_trans h.below.size h1
    · obtain ⟨h1, h2⟩ := h.dom j c hc k hkc
      exact ⟨h1, Nat.lt_of_lt_of_le h2 hs⟩
  · rcases look j c hc with ⟨e1, f1⟩ | ⟨e1, f1⟩ <;> rcases look j' c' hc' with ⟨e2, f2⟩ | ⟨e2, f2⟩
    · exact hj (e1.trans e2.symm)
    · rw [f1] at hkc
      rcases (hP k hkc).1 with h1 | h1
      · exact h.dis i j' a c' (fun e => e2 e.symm) hi f2 k h1 hkc'
      · exact absurd (h.dom j' c' f2 k hkc').2 (by omega)
    · rw [f2] at hkc'
      rcases (hP k hkc').1 with h1 | h1
      · exact h.dis i j a c (fun e => e1 e.symm) hi f1 k h1 hkc
      · exact absurd (h.dom j c f1 k hkc).2 (by omega)
    · exact h.dis j j' c c' hj f1 f2 k hkc hkc'
theorem Hp.cons (h : Hp w0 L W) (b : Ass) (hB : Below w0.heap.size w0 W1) (hs : W.heap.size ≤ W1.heap.size) (hk : ∀ k, k < W.heap.size → W1.heap[k]? = W.heap[k]?) (hT : b.T W1) (hP : ∀ k, b.P k → W.heap.size ≤ k ∧ k < W1.heap.size) : Hp w0 (b :: L) W1 := by
  refine ⟨hB, fun i a hi => ?_, fun i a hi k hka => ?_, fun i j a c hij hi hj k hka hkc => ?_⟩
  · cases i with
    | zero => simp only [List.getElem?_cons_zero, Option.some.injEq] at hi; subst hi; exact hT
    | succ i => rw [List.getElem?_cons_succ] at hi; exact a.st W W1 (h.hold i a hi) (fun k _ hlt => hk k hlt)
  · cases i with
    | zero => simp only [List.getElem?_cons_zero, Option.some.injEq] at hi; subst hi; exact ⟨Nat.le_trans h.below.size (hP k hka).1, (hP k hka).2⟩
    | succ i => rw [List.getElem?_cons_succ] at hi; exact ⟨(h.dom i a hi k hka).1, Nat.lt_of_lt_of_le (h.dom i a hi k hka).2 hs⟩
  · cases i with
    | zero =>
      simp only [List.getElem?_cons_zero, Option.some.injEq] at hi; subst hi
      cases j with
      | zero => exact hij rfl
      | succ j => rw [List.getElem?_cons_succ] at hj; have := (h.dom j c hj k hkc).2; have := (hP k hka).1; omega
    | succ i =>
      rw [List.getElem?_cons_succ] at hi
      cases j with
      | zero => simp only [List.getElem?_cons_zero, Option.some.injEq] at hj; subst hj; have := (h.dom i a hi k hka).2; have := (hP k hkc).1; omega
      | succ j => rw [List.getElem?_cons_succ] at hj; exact h.dis i j a c (fun e => hij (by rw [e])) hi hj k hka hkc
theorem Hp.tail {b : Ass} (h : Hp w0 (b :: L) W) : Hp w0 L W :=
  ⟨h.below, fun i a hi => h.hold (i + 1) a (by rw [List.getElem?_cons_succ]; exact hi), fun i a hi => h.dom (i + 1) a (by rw [List.getElem?_cons_succ]; exact hi),
   fun i j a c hij hi hj => h.dis (i + 1) (j + 1) a c (by omega) (by rw [List.getElem?_cons_succ]; exact hi) (by rw [List.getElem?_cons_succ]; exact hj)⟩
theorem Hp.go (h : Hp w0 L W) (hb : Below W.heap.size W W1) : Hp w0 L W1 :=
  ⟨below_weaken h.below h.below.size hb, fun i a hi => a.st W W1 (h.hold i a hi) (fun k _ hlt => hb.block k hlt), fun i a hi k hk => ⟨(h.dom i a hi k hk).1, Nat.lt_of_lt_of_le (h.dom i a hi k hk).2 hb.size⟩, h.dis⟩
theorem Hp.drew (h : Hp w0 L W) : Hp w0 L W.drew := h.go (below_drew1 (Below.refl _ _))
theorem Hp.perm {L' : List Ass} (h : Hp w0 L W) (hp : L.Perm L') : Hp w0 L' W := by
  have hm : ∀ (i : Nat) a, L'[i]? = some a → ∃ j : Nat, L[j]? = some a := fun i a hi => List.getElem?_of_mem (hp.mem_iff.2 (List.mem_of_getElem? hi))
  have hq : L.Pairwise (fun a b => ∀ k, a.P k → ¬ b.P k) := by
    rw [List.pairwise_iff_getElem]
    intro i j hi hj hij k
    exact h.dis i j _ _ (by omega) (List.getElem?_eq_getElem hi) (List.getElem?_eq_getElem hj) k
  have hq' := (hp.pairwise_iff (fun {a b} (hr : ∀ k, a.P k → ¬ b.P k) k hb ha => hr k ha hb)).1 hq
  rw [List.pairwise_iff_getElem] at hq'
  refine ⟨h.below, fun i a hi => ?_, fun i a hi => ?_, fun i j a b hij hi hj k ha hb => ?_⟩
  · obtain ⟨j, hj⟩ := hm i a hi
    exact h.hold j a hj
  · obtain ⟨j, hj⟩ := hm i a hi
    exact h.dom j a hj
  · obtain ⟨li, rfl⟩ := List.getElem?_eq_some_iff.1 hi
    obtain ⟨lj, rfl⟩ := List.getElem?_eq_some_iff.1 hj
    rcases Nat.lt_or_gt_of_ne hij with h1 | h1
    · exact hq' i j li lj h1 k ha hb
    · exact hq' j i lj li h1 k hb ha
theorem Hp.rot {a b c : Ass} (h : Hp w0 (a :: b :: c :: L) W) : Hp w0 (b :: c :: a :: L) W := h.perm ((List.Perm.swap b a (c :: L)).trans (List.Perm.cons b (List.Perm.swap c a L)))
theorem Hp.back {a b c : Ass} (h : Hp w0 (b :: c :: a :: L) W) : Hp w0 (a :: b :: c :: L) W := h.perm (((List.Perm.swap b a (c :: L)).trans (List.Perm.cons b (List.Perm.swap c a L))).symm)
/-! blocks -/
def blk (g : Nat) (o : Obj) : Ass := ⟨fun k => k = g, fun W => W.heap[g]? = some o, fun W W' h hk => (hk g rfl (blk_lt h)).trans h⟩
theorem Hp.get (h : Hp w0 L W) (i : Nat) {g : Nat} {o : Obj} (hi : L[i]? = some (blk g o)) : W.heap[g]? = some o := h.hold i _ hi
theorem Hp.cell (h : Hp w0 L W) (i : Nat) {g : Nat} {cs : Array Value} {t : TypeId} (hi : L[i]? = some (blk g (.cells cs t (0, 0)))) (j : Nat) : W.cell? ⟨g, j, none⟩ = cs[j]? := blk_cell (h.get i hi) j
theorem Hp.froz (h : Hp w0 L W) (i : Nat) {g : Nat} {cs : Array Value} {t : TypeId} (hi : L[i]? = some (blk g (.cells cs t (0, 0)))) (j : Nat) : W.frozen? ⟨g, j, none⟩ = false := blk_frozen (h.get i hi) j
theorem Hp.box (h : Hp w0 L W) {g : Nat} {o : Obj} (hg : g = W.heap.size) (hn : W1.heap[g]? = some o) (hb : Below W.heap.size W W1) : Hp w0 (blk g o :: L) W1 :=
  h.cons _ (below_weaken h.below h.below.size hb) hb.size (fun k hk => hb.block k hk) hn (fun k hk => by have hk' : k = g := hk; have := blk_lt hn; omega)
theorem Hp.put (h : Hp w0 L W) (i j : Nat) (v : Value) {g : Nat} {cs cs' : Array Value} {t : TypeId} (hi : L[i]? = some (blk g (.cells cs t (0, 0)))) (hc : cs.setIfInBounds j v = cs') : Hp w0 (L.set i (blk g (.cells cs' t (0, 0)))) (W.setCell ⟨g, j, none⟩ v) := by
  have hsz : (W.setCell ⟨g, j, none⟩ v).heap.size = W.heap.size := World.size_setCell W _ v
  exact h.upd i hi (below_set h.below (h.dom i _ hi g rfl).1) (Nat.le_of_eq hsz.symm) (fun k _ hne => Below.heap_setCell W ⟨g, j, none⟩ v k hne) (blk_put (h.get i hi) j v hc) (fun k hk => ⟨.inl hk, by rw [hsz]; exact (h.dom i _ hi k hk).2⟩)
/-! rows -/
def rowA {α : Type} (d : Kd α) (e base : Nat) (P : Nat → Prop) (u : Value) (l : List α) : Ass := ⟨P, fun W => d.R e W base P u l, fun W W' h hk => Kd.R_step h hk⟩
variable {α : Type} {d : Kd α} {e : Nat} {P : Nat → Prop} {u : Value} {l : List α}
theorem Hp.row (h : Hp w0 L W) (i : Nat) {base : Nat} (hi : L[i]? = some (rowA d e base P u l)) : d.R e W base P u l := h.hold i _ hi
theorem Hp.nil (h : Hp w0 L W) (d : Kd α) (e : Nat) : Hp w0 (rowA d e w0.heap.size (fun _ => False) (.slice none 0 0) [] :: L) W :=
  h.cons _ h.below (Nat.le_refl _) (fun _ _ => rfl) (Kd.R_nil _ _ _ _ _) (fun k hk => hk.elim)
theorem Hp.rowset (h : Hp w0 L W) (i : Nat) (hi : L[i]? = some (rowA d e w0.heap.size P u l)) {v : Value} {r : List α} (hr : d.R e W1 w0.heap.size P v r) (hB : Below w0.heap.size w0 W1) (hg : W.grownBy W1 u.ownBlock) : Hp w0 (L.set i (rowA d e w0.heap.size P v r)) W1 :=
  h.upd i hi hB hg.size (fun k hk hne => hg.block k hk (fun e => hne ((h.row i hi).1 k e.symm))) hr (fun k hk => ⟨.inl hk, Nat.lt_of_lt_of_le (h.dom i _ hi k hk).2 hg.size⟩)
theorem Hp.append (h : Hp w0 L W) (i : Nat) (hi : L[i]? = some (rowA d e w0.heap.size P u l)) {v : Value} {r : List α} (hr : d.R e W1 w0.heap.size (fun k => P k ∨ W.heap.size ≤ k) v r) (hB : Below w0.heap.size w0 W1) (hg : W.grownBy W1 u.ownBlock) : Hp w0 (L.set i (rowA d e w0.heap.size (fun k => (P k ∨ W.heap.size ≤ k) ∧ k < W1.heap.size) v r)) W1 :=
  h.upd i hi hB hg.size (fun k hk hne => hg.block k hk (fun e => hne ((h.row i hi).1 k e.symm))) (Kd.R_mono (Kd.R_bound hr) (fun k hk => ⟨hk.1, hk.2.2.1⟩)) (fun k hk => ⟨hk.1, hk.2⟩)
theorem Hp.newrow (h : Hp w0 L W) (i : Nat) (hi : L[i]? = some (rowA d e w0.heap.size P u l)) {v : Value} {r : List α} (hr : d.R e W1 w0.heap.size (fun k => W.heap.size ≤ k) v r) (hB : Below w0.heap.size w0 W1) (hg : W.grownBy W1 none) : Hp w0 (L.set i (rowA d e w0.heap.size (fun k => W.heap.size ≤ k ∧ k < W1.heap.size) v r)) W1 :=
  h.upd i hi hB hg.size (fun k hk hne => hg.block k hk (fun e => by cases e)) (Kd.R_mono (Kd.R_bound hr) (fun k hk => ⟨hk.1, hk.2.2.1⟩)) (fun k hk => ⟨.inr hk.1, hk.2⟩)
theorem Hp.mkrow (h : Hp w0 L W) {v : Value} {r : List α} (hr : d.R e W1 w0.heap.size (fun k => W.heap.size ≤ k) v r) (hB : Below w0.heap.size w0 W1) (hg : W.grownBy W1 none) : Hp w0 (rowA d e w0.heap.size (fun k => W.heap.size ≤ k ∧ k < W1.heap.size) v r :: L) W1 :=
  h.cons _ hB hg.size (fun k hk => hg.block k hk (fun e => by cases e)) (Kd.R_mono (Kd.R_bound hr) (fun k hk => ⟨hk.1, hk.2.2.1⟩)) (fun k hk => hk)
/-! arms -/
variable {Pg : Program} {ops : Array Oper} {Qx : Exit → Act → World → Prop} {rest : List Oper} {o : Oper} {a : Act} {Kc : Act → World → Prop}
theorem box_hp (H : Hp w0 L W) (N : Tmp) (cs : Array Value) (t : TypeId) (hd : o.dst = some N) (h : ∀ g w1, Hp w0 (blk g (.cells cs t (0, 0)) :: L) w1 → wpList Pg ops Qx rest (a.put o.dst (.pointer (some ⟨g, 0, none⟩))) w1)
    (hgd : o.guard = none := by rfl) (hr : (execOp a.eval o).run Pg W = .ok (.value (.pointer (some ⟨W.heap.size, 0, none⟩))) (W.alloc (.cells cs t (0, 0))) := by first | (go_simp; done) | (go_simp; rfl)) : wpList Pg ops Qx (o :: rest) a W :=
  box_event hgd hd hr (fun g hg w1 hn hb => h g w1 (H.box hg hn hb))
end
/-! a map of whole numbers -/
def mapT (W : World) (b n : Nat) (F : Int → Int) : Prop := ∃ D, W.ownsMap Try.prog 3 (plainElem (H := Unit) Try.prog 3) b n D ∧ ∀ x : Int, (Lit.int .i64 x).wf = true → D.atKey (.int .i64 x) (.lit (.int .i64 0)) = .lit (.int .i64 (F x))
def mapI (b n : Nat) (F : Int → Int) : Ass := ⟨fun k => k = b, fun W => mapT W b n F, fun W W' h hk => by
  obtain ⟨D, hd, hF⟩ := h
  have hlt := hd.lt
  obtain ⟨es, clock, q1, q2, q3, q4⟩ := hd
  exact ⟨D, ⟨es, clock, (hk b rfl hlt).trans q1, q2, q3, q4⟩, hF⟩⟩
theorem i_keyed : Go.Maps.Keyed Try.prog 3 := Go.Maps.int_keyed Try.underlying3
theorem i_zero (w : World) : (zeroValue 3).run Try.prog w = .ok (.int .i64 0) w := by kernel_rfl
theorem i_key {x : Int} (h : (Lit.int .i64 x).wf = true) : keyOf Try.prog 3 (.int .i64 x) = some (.int .i64 x) := Go.Maps.keyOf_int_mk Try.underlying3 h
theorem mapT.made (w : World) : mapT (w.alloc (.map #[] 0)) w.heap.size 0 (fun _ => 0) := ⟨.map [], World.ownsMap_made w Try.prog 3 (plainElem (H := Unit) Try.prog 3), fun x _ => rfl⟩
theorem mapT.look {W : World} {b n : Nat} {F : Int → Int} (h : mapT W b n F) {x : Int} (hx : (Lit.int .i64 x).wf = true) {t : TypeId} (ht : Try.prog.underlying t = some (.map 3 3)) : (Instr.lookup t (.map (some b)) (.int .i64 x) false).run Try.prog W = .ok (.int .i64 (F x)) W := by
  obtain ⟨D, hd, hF⟩ := h
  obtain ⟨c, hrun, hat, _⟩ := hd.lookup_int i_keyed ht Try.underlying3 (i_zero _) (i_key hx)
  rw [hF x hx] at hat
  simp only [DataW.lit.injEq, Lit.int.injEq, true_and] at hat
  rw [hrun, hat]
theorem mapT.put {W1 : World} {b n : Nat} {F : Int → Int} {D : DataW Unit} (hD : Go.Maps.IsMap D) (hF : ∀ x : Int, (Lit.int .i64 x).wf = true → D.atKey (.int .i64 x) (.lit (.int .i64 0)) = .lit (.int .i64 (F x))) {x v : Int} (hx : (Lit.int .i64 x).wf = true) (ho : W1.ownsMap Try.prog 3 (plainElem (H := Unit) Try.prog 3) b n (D.put (.int .i64 x) (.lit (.int .i64 v)))) : mapT W1 b n (fun y => if y = x then v else F y) := by
  refine ⟨_, ho, fun y hy => ?_⟩
  by_cases e : y = x
  · subst e
    show _ = DataW.lit (.int .i64 (if y = y then v else F y))
    rw [if_pos rfl]
    exact Go.Maps.atKey_put_same hD (i_keyed.key (i_key hx)) _ _
  · show _ = DataW.lit (.int .i64 (if y = x then v else F y))
    rw [if_neg e, Go.Maps.atKey_put_other (fun h => e (by simpa using h))]
    exact hF y hy
/-! more steps -/
def putCs : Array Value → Nat → List Value → Array Value
  | cs, _, [] => cs
  | cs, j, v :: vs => putCs (cs.setIfInBounds j v) (j + 1) vs
section
variable {w0 : World} {L : List Ass} {W W1 : World}
theorem Hp.puts {i : Nat} {g : Nat} {t : TypeId} : ∀ (vs : List Value) (j : Nat) {L : List Ass} {W : World} {cs : Array Value}, Hp w0 L W → L[i]? = some (blk g (.cells cs t (0, 0))) → Hp w0 (L.set i (blk g (.cells (putCs cs j vs) t (0, 0)))) (W.setCells g j vs)
  | [], j, L, W, cs, h, hi => by
    show Hp w0 (L.set i (blk g (.cells cs t (0, 0)))) W
    have e : L.set i (blk g (.cells cs t (0, 0))) = L := by
      apply List.ext_getElem?
      intro k
      rw [List.getElem?_set]
      by_cases hk : i = k
      · subst hk; rw [if_pos rfl, if_pos (List.getElem?_eq_some_iff.1 hi).1, hi]
      · rw [if_neg hk]
    rw [e]; exact h
  | v :: vs, j, L, W, cs, h, hi => by
    have h1 := h.put i j v hi rfl
    have hlt : i < L.length := (List.getElem?_eq_some_iff.1 hi).1
    have h2 := Hp.puts vs (j + 1) h1 (by rw [List.getElem?_set_self hlt])
    rw [List.set_set] at h2
    exact h2
theorem Hp.putAll (h : Hp w0 L W) (i : Nat) {g : Nat} {t : TypeId} {cs cs' : Array Value} (vs : List Value) (hi : L[i]? = some (blk g (.cells cs t (0, 0)))) (hc : putCs cs 0 vs = cs') : Hp w0 (L.set i (blk g (.cells cs' t (0, 0)))) (W.setCells g 0 vs) := hc ▸ Hp.puts vs 0 h hi
theorem Hp.mapput (h : Hp w0 L W) (i : Nat) {b n n' : Nat} {F F' : Int → Int} (hi : L[i]? = some (mapI b n F)) (hT : mapT W1 b n' F') (hg : W.grownBy W1 (some b)) : Hp w0 (L.set i (mapI b n' F')) W1 := by
  have hd := h.dom i _ hi b rfl
  exact h.upd i hi (h.below.grown hg h.below.size (fun k hk => by injection hk with hk; rw [← hk]; exact hd.1)) hg.size (fun k hk hne => hg.block k hk (fun e => hne (by injection e))) hT (fun k hk => ⟨.inl hk, by have hk' : k = b := hk; have := hg.size; omega⟩)
theorem Hp.map (h : Hp w0 L W) (i : Nat) {b n : Nat} {F : Int → Int} (hi : L[i]? = some (mapI b n F)) : mapT W b n F := h.hold i _ hi
variable {ops : Array Oper} {Qx : Exit → Act → World → Prop} {rest : List Oper} {o : Oper} {a : Act}
theorem mkmap_hp (H : Hp w0 L W) (N : Tmp) (t : TypeId) (hd : o.dst = some N) (hop : o.op = .makeMap t none) (h : ∀ g w1, Hp w0 (mapI g 0 (fun _ => 0) :: L) w1 → wpList Try.prog ops Qx rest (a.put o.dst (.map (some g))) w1) (hgd : o.guard = none := by rfl) : wpList Try.prog ops Qx (o :: rest) a W :=
  Kd.event_run hgd (w1 := W.alloc (.map #[] 0)) (v := .map (some W.heap.size)) (by
    have hmm := @run_makeMap Try.prog
    unfold execOp
    simp [hop, hmm]) (h _ _ (H.cons _ (H.below.alloc H.below.size _) (by simp) (fun k hk => (below_alloc (Below.refl W.heap.size W) (.map #[] 0)).block k hk) (mapT.made W) (fun k hk => by have hk' : k = W.heap.size := hk; subst hk'; simp)))
theorem mapset_hp (H : Hp w0 L W) (i : Nat) {b n : Nat} {F : Int → Int} (hi : L[i]? = some (mapI b n F)) (hn : n < maxLen) {x v : Int} (hx : (Lit.int .i64 x).wf = true) (hv : (Lit.int .i64 v).wf = true) {t : TypeId} {m kx vx : Operand} (hop : o.op = .mapUpdate t m kx vx) (ht : Try.prog.underlying t = some (.map 3 3)) (hm : a.eval m = .map (some b)) (hk : a.eval kx = .int .i64 x) (hvv : a.eval vx = .int .i64 v)
    (h : ∀ w1, Hp w0 (L.set i (mapI b (n + 1) (fun y => if y = x then v else F y))) w1 → wpList Try.prog ops Qx rest (a.put o.dst undef) w1) (hgd : o.guard = none) : wpList Try.prog ops Qx (o :: rest) a W := by
  obtain ⟨D, hown, hF⟩ := H.map i hi
  exact wpList_mapUpdate_own W hgd m kx vx t hop 3 3 i_keyed ht (plainElem (H := Unit) Try.prog 3) b n D hm hown hn (.int .i64 x) (.int .i64 v) (.int .i64 x) hk hvv (i_key hx) (.lit (.int .i64 v)) [] (plainElem_int Try.underlying3 hv) (fun w1 ho hg => h w1 (H.mapput i hi (mapT.put hown.isMap hF hx ho) hg))
theorem run_store_struct {P : Program} {o : Oper} {ρ : Operand → Value} {w : World} {ty : TypeId} {p x : Operand} {g : Nat} {cs : Array Value} {t : TypeId} {vs : List Value} (ho : o.op = .store ty p x) (hu : (P.info? ty).map (·.size) = some cs.size) (hp : ρ p = .pointer (some ⟨g, 0, none⟩)) (hx : ρ x = .agg ⟨vs⟩) (hb : w.heap[g]? = some (.cells cs t (0, 0))) (hl : vs.length = cs.size) (h1 : vs.all (·.oneCell') = true) :
    (execOp ρ o).run P w = .ok .skip (w.setCells g 0 vs) := by
  have hst := run_storeCells_cells (P := P) g 0 vs 0 w (fun j hj => by rw [blk_cell hb, Array.getElem?_eq_getElem (by omega)]; rfl) (fun j _ => blk_frozen hb _) (fun v hv => List.all_eq_true.1 h1 v hv)
  obtain ⟨i, hi, he⟩ := Option.map_eq_some_iff.mp hu
  unfold execOp
  simp [ho, hp, hx, Instr.storeAt, storeVar, sizeOf, typeInfo, hi, he, Value.cells, hl, hst, Instr.sureAddr]
/-- A struct that is stored whole into a block: in a plain region, and in one that draws. -/
theorem store_struct {P : Program} {ops : Array Oper} {Q : Exit → Act → World → Prop} {rest : List Oper} {o : Oper} {a : Act} {w : World} {ty : TypeId} {p x : Operand} {g : Nat} {cs : Array Value} {t : TypeId} {vs : List Value} (hgd : o.guard = none) (hN : o.dst = none) (ho : o.op = .store ty p x) (hu : (P.info? ty).map (·.size) = some cs.size) (hp : a.eval p = .pointer (some ⟨g, 0, none⟩)) (hx : a.eval x = .agg ⟨vs⟩) (hb : w.heap[g]? = some (.cells cs t (0, 0))) (hl : vs.length = cs.size) (h1 : vs.all (·.oneCell') = true)
    (h : wpList P ops Q rest a (w.setCells g 0 vs)) : wpList P ops Q (o :: rest) a w := by
  refine wpList_plain hgd fun K hK => ?_
  unfold Oper.wp
  rw [run_store_struct ho hu hp hx hb hl h1]
  show K (a.put o.dst undef) _
  rw [hN]
  exact hK _ _ h
end
/-! steps of a region that draws -/
theorem xAi {a b c : Prop} (h : a → b → c) : a ∧ b → c := fun x => h x.1 x.2
theorem xP {P : Program} {ops : Array Oper} {Q : Exit → Act → World → Prop} {md : Region.Mode} {S : World → Prop} {ds : List Nat} {T : Bool × List (List Nat × List Nat)} {oi : Oper} {v : Value} {fuel : Nat} {l : Array Bool} {a a' : Act} {w : World} (i : Nat) (N : Tmp) (l' : Array Bool) (hT : Aside0 (rtab md ops = T)) (h : wpAnyLast P md ops Q S ds fuel l' a' w) (hi : ops[i]? = some oi := by rfl) (hN : oi.dst = some N := by rfl) (hc : anyT T l.toList l'.toList i = true := by kernel_rfl) (hQ : ∀ c a w, Q (.panic c) (a.put oi.dst v) w → Q (.panic c) a w := by exact fun _ _ _ h => h) (hw : Region.wanted oi (yielded ops a.tmps) = true := by rfl) (hy : ∀ w, (execOp a.eval oi).run P w = .ok (.value v) w := by intro w'; go_simp; with_reducible rfl) (ha : a.put (some N) v = a' := by simp only [Act.put, List.setIfInBounds_toArray, List.set_cons_zero, List.set_cons_succ, i64_w, i32_w]; rfl) : wpAnyLast P md ops Q S ds (fuel + 1) l a w := pure_ l' hi hN (any_of hT.out hc) hQ (Or.inl ⟨hw, hy⟩) ha h
theorem xQ {P : Program} {ops : Array Oper} {Q : Exit → Act → World → Prop} {md : Region.Mode} {S : World → Prop} {ds : List Nat} {T : Bool × List (List Nat × List Nat)} {oi : Oper} {v : Value} {fuel : Nat} {l : Array Bool} {a a' : Act} {w : World} {B : List Nat} (i : Nat) (N : Tmp) (l' : Array Bool) (hT : Aside0 (rtab md ops = T)) (hW : Aside0 (waitsOk T.2 B = true)) (hS : S w) (h : wpAnyLast P md ops Q S ds fuel l' a' w) (hi : ops[i]? = some oi := by rfl) (hN : oi.dst = some N := by rfl) (hc : takeW T B ds l.toList l'.toList i = true := by kernel_rfl) (hQ : ∀ c a w, Q (.panic c) (a.put oi.dst v) w → Q (.panic c) a w := by exact fun _ _ _ h => h) (hw : Region.wanted oi (yielded ops a.tmps) = true := by rfl) (hy : ∀ w, S w → (execOp a.eval oi).run P w = .ok (.value v) w := by intro w'; (repeat (refine xAi ?_; intro _)); intro _; go_simp; with_reducible rfl) (ha : a.put (some N) v = a' := by simp only [Act.put, List.setIfInBounds_toArray, List.set_cons_zero, List.set_cons_succ, i64_w, i32_w]; rfl) : wpAnyLast P md ops Q S ds (fuel + 1) l a w := take_ l' hi hN (take_ofW hT.out hW.out hc) hQ (Or.inl ⟨hw, hy⟩) hS ha h
theorem xU {P : Program} {ops : Array Oper} {Q : Exit → Act → World → Prop} {md : Region.Mode} {S : World → Prop} {ds : List Nat} {T : Bool × List (List Nat × List Nat)} {oi : Oper} {fuel : Nat} {l : Array Bool} {a a' : Act} {w : World} (i : Nat) (N : Tmp) (l' : Array Bool) (hT : Aside0 (rtab md ops = T)) (h : wpAnyLast P md ops Q S ds fuel l' a' w) (hi : ops[i]? = some oi := by rfl) (hN : oi.dst = some N := by rfl) (hc : anyT T l.toList l'.toList i = true := by kernel_rfl) (hQ : ∀ c a w, Q (.panic c) (a.put oi.dst undef) w → Q (.panic c) a w := by exact fun _ _ _ h => h) (hw : Region.wanted oi (yielded ops a.tmps) = false := by rfl) (ha : a.put (some N) undef = a' := by simp only [Act.put, List.setIfInBounds_toArray, List.set_cons_zero, List.set_cons_succ, i64_w, i32_w]; rfl) : wpAnyLast P md ops Q S ds (fuel + 1) l a w := pure_ l' hi hN (any_of hT.out hc) hQ (Or.inr ⟨hw, rfl⟩) ha h
def xM (n m : Nat) : Array Bool := ⟨(List.range n).map (fun i => Nat.testBit m i)⟩

/- impl.EventsOK by hand: the map of each shop's last number is a function. -/
theorem le_in (a b c : Int) : impl_within.f a b c = some (decide (b ≤ a ∧ a ≤ c)) := by
  unfold impl_within.f
  by_cases h1 : a ≥ b
  · rw [if_pos h1]
    exact congrArg some (decide_eq_decide.2 ⟨fun h => ⟨h1, h⟩, fun h => h.2⟩)
  · rw [if_neg h1]
    exact congrArg some (decide_eq_false (fun h => h1 h.1)).symm
theorem ev_j0 (k : Nat) (a b c d : Int) (e : ByteArray) (f : Int) : impl_isEvent.j0 k true a b c d e f ≠ some true := by
  cases k <;> simp [impl_isEvent.j0]
theorem ev_in {k : Nat} {e : S35} (h : impl_isEvent.f k e.f0 e.f1 e.f2 e.f3 e.f4 e.f5 = some true) : (1 ≤ e.f0 ∧ e.f0 ≤ 9) ∧ (1 ≤ e.f1 ∧ e.f1 ≤ 120) := by
  unfold impl_isEvent.f at h
  rw [le_in, Option.bind_some] at h
  by_cases h1 : 1 ≤ e.f0 ∧ e.f0 ≤ 9
  · rw [if_pos (decide_eq_true h1), le_in, Option.bind_some] at h
    by_cases h2 : 1 ≤ e.f1 ∧ e.f1 ≤ 120
    · exact ⟨h1, h2⟩
    · rw [if_neg (by simp [h2])] at h
      exact absurd h (ev_j0 _ _ _ _ _ _ _)
  · rw [if_neg (by simp [h1])] at h
    exact absurd h (ev_j0 _ _ _ _ _ _ _)
abbrev upI (F : Int → Int) (x v : Int) : Int → Int := fun y => if y = x then v else F y
def impl_EventsOK.l0 : Nat → List S35 → (Int → Int) → Nat → Option Bool
  | 0, _, _, _ => none
  | k + 1, l, F, i => if i < l.length then (impl_isEvent.f k (rd_T35 l (i : Int)).f0 (rd_T35 l (i : Int)).f1 (rd_T35 l (i : Int)).f2 (rd_T35 l (i : Int)).f3 (rd_T35 l (i : Int)).f4 (rd_T35 l (i : Int)).f5).bind fun t => (if t = true then ((if 0 < i then impl_compareEvents.f k (rd_T35 l ((i : Int) - 1)).f0 (rd_T35 l ((i : Int) - 1)).f1 (rd_T35 l ((i : Int) - 1)).f2 (rd_T35 l ((i : Int) - 1)).f3 (rd_T35 l ((i : Int) - 1)).f4 (rd_T35 l ((i : Int) - 1)).f5 (rd_T35 l (i : Int)).f0 (rd_T35 l (i : Int)).f1 (rd_T35 l (i : Int)).f2 (rd_T35 l (i : Int)).f3 (rd_T35 l (i : Int)).f4 (rd_T35 l (i : Int)).f5 else some (-1)).bind fun c => (if c ≥ 0 then some false else (if F (rd_T35 l (i : Int)).f0 ≥ (rd_T35 l (i : Int)).f1 then some false else impl_EventsOK.l0 k l (upI F (rd_T35 l (i : Int)).f0 (rd_T35 l (i : Int)).f1) (i + 1)))) else some false) else some true
def impl_EventsOK.f (k : Nat) (l : List S35) : Option Bool := if l.length > 120 then some false else impl_EventsOK.l0 k l (fun _ => 0) 0
theorem impl_EventsOK.mono_l : ∀ k l F i, LeO (impl_EventsOK.l0 k l F i) (impl_EventsOK.l0 (k + 1) l F i)
  | 0, _, _, _ => LeO.none _
  | k + 1, l, F, i => by
    unfold impl_EventsOK.l0
    refine LeO.ite (LeO.bind (impl_isEvent.mono _ _ _ _ _ _ _) (fun t => LeO.ite (LeO.bind (LeO.ite (impl_compareEvents.mono _ _ _ _ _ _ _ _ _ _ _ _ _) (LeO.refl _)) (fun c => LeO.ite (LeO.refl _) (LeO.ite (LeO.refl _) (impl_EventsOK.mono_l k _ _ _)))) (LeO.refl _))) (LeO.refl _)
theorem impl_EventsOK.mono : ∀ l k, LeO (impl_EventsOK.f k l) (impl_EventsOK.f (k + 1) l) := fun l k => LeO.ite (LeO.refl _) (impl_EventsOK.mono_l k l _ _)
def eo.T7 : Bool × List (List Nat × List Nat) := (true, [([], []), ([0], [0]), ([1], [1]), ([2, 1], [2]), ([3], [3]), ([4, 3], [3, 4]), ([5, 3, 3], [3, 5]), ([6], [6]), ([6], [6]), ([8, 6], [6, 8]), ([7, 9, 6], [6, 7, 9]), ([10, 6], [6, 10]), ([6], [6]), ([11, 12, 6, 6], [6, 11, 12]), ([13, 6], [6, 13]), ([6, 14, 3], [3, 6, 14]), ([3, 15], [3, 15]), ([16, 13], [16]), ([17], [17]), ([17], [17]), ([19, 17], [17, 19]), ([18, 20, 17], [17, 18, 20]), ([17], [17]), ([22, 17], [17, 22]), ([21, 23, 17], [17, 21, 23]), ([17, 24], [17, 24])])
def eo.B7 : List Nat := [0, 1, 3, 7, 15, 31, 63, 127, 127, 383, 1023, 2047, 127, 8191, 16383, 32767, 65535, 131071, 262143, 262143, 786431, 2097151, 262143, 4456447, 16777215, 33554431]
theorem eo.tab7 : rtab .any (opsOf Try.f25 7) = eo.T7 := by kernel_rfl
theorem eo.bits7 : waitsOk eo.T7.2 eo.B7 = true := by kernel_rfl
set_option maxHeartbeats 64000000 in
set_option maxRecDepth 100000 in
theorem impl_EventsOK.calls (k : Nat) (A0 : Option Addr) (c0 : Nat) (l0 : List (S35)) (r : Bool) (w : World) (hr0 : Kd.C k35 w A0 l0.length l0) (hc0 : l0.length ≤ c0) (h : impl_EventsOK.f k l0 = some r) :
    Calls Try.prog 25 #[.slice A0 l0.length c0] w fun e w' => e = .returned (.bool r) ∧ Below w.heap.size w w' := by
  have hu35 := Try.underlying35
  have hu76 := Try.underlying76
  have S0 := Aside0.mk (Hp.start w)
  have HR := Aside0.mk hr0
  have HC0 := Aside0.mk hc0
  unfold impl_EventsOK.f at h
  clear hr0 hc0
  by_cases c0b : l0.length > 120
  · rw [if_pos c0b] at h
    obtain rfl := Option.some.inj h
    have cb : decide ((l0.length : Int) > 120) = true := decide_eq_true (by omega)
    have cb2 : decide (120 < (l0.length : Int)) = true := decide_eq_true (by omega)
    have cb3 : decide (120 < l0.length) = true := decide_eq_true (by omega)
    clear h c0b
    go_enter Try.func25, Try.ntmps25
    go_wp2
    go_ret
    exact ⟨rfl, S0.out.below⟩
  rw [if_neg c0b] at h
  have cb : decide ((l0.length : Int) > 120) = false := decide_eq_false (by omega)
  have cb2 : decide (120 < (l0.length : Int)) = false := decide_eq_false (by omega)
  have cb3 : decide (120 < l0.length) = false := decide_eq_false (by omega)
  have HL := Aside0.mk (show l0.length ≤ 120 by omega)
  have H' := Aside0.mk h
  clear h c0b
  go_enter Try.func25, Try.ntmps25
  go_wp2_with (first | (refine mkmap_hp S0.out 9 76 rfl rfl ?_; intro mb w1 h_; have S1 := Aside0.mk h_; clear h_))
  clear cb cb2 cb3 S0
  go_loopg [12] k (fun kq v12 wr => ∃ (F : Int → Int) (i n : Nat), v12 = .int .i64 (i : Int) ∧ Aside0 (impl_EventsOK.l0 kq l0 F i = some r) ∧ Aside0 (i ≤ l0.length) ∧ Aside0 (n ≤ i) ∧ Aside0 (Hp w [mapI mb n F] wr))
  case atStart => exact ⟨fun _ => 0, 0, 0, rfl, H', ⟨Nat.zero_le _⟩, ⟨Nat.le_refl _⟩, S1⟩
  case round =>
    obtain ⟨F, i, n, rfl, HA, GI, GN, SR⟩ := hrel
    have NB := Aside0.mk (show n < maxLen from Nat.lt_of_le_of_lt (Nat.le_trans GN.out (Nat.le_trans GI.out HL.out)) (by unfold maxLen; decide))
    clear S1 H'
    cases gk with
    | zero => exact absurd HA.out (by simp [impl_EventsOK.l0])
    | succ k1 =>
      have H := HA.out
      clear HA
      unfold impl_EventsOK.l0 at H
      by_cases hlt : i < l0.length
      rotate_left
      · rw [if_neg hlt] at H
        obtain rfl := Option.some.inj H
        have hltb : decide (i < l0.length) = false := decide_eq_false hlt
        clear hlt H
        go_wp2
        go_ret
        exact ⟨rfl, SR.out.below⟩
      rw [if_pos hlt] at H
      have hltb : decide (i < l0.length) = true := decide_eq_true hlt
      have hltb2 : decide ((i : Int) < (l0.length : Int)) = true := decide_eq_true (by omega)
      obtain ⟨ad, e, hx0, hx1, hx2, hx3, hx4, hx5⟩ := at_T35 HR.out (i : Int) (by omega) (by omega)
      cases e
      rw [Int.toNat_natCast] at hx0 hx1 hx2 hx3 hx4 hx5
      obtain ⟨ev, hev⟩ : ∃ ev, ev = rd_T35 l0 (i : Int) := ⟨_, rfl⟩
      rw [← hev] at H hx0 hx1 hx2 hx3 hx4 hx5
      have HEV := Aside0.mk hev
      have hp0 : (0 ≤ (i : Int)) = True := eq_true (by omega)
      have hp1 : ((i : Int) < (l0.length : Int)) = True := eq_true (by omega)
      have HI := Aside0.mk hlt
      have hi120 : i < 120 := by have := HL.out; omega
      have H1 := Aside0.mk H
      clear hev hlt H
      have HX := Aside0.mk (show _ ∧ _ ∧ _ ∧ _ ∧ _ ∧ _ from ⟨hx0, hx1, hx2, hx3, hx4, hx5⟩)
      replace hx0 := (SR.out.below.cell (World.block_lt_of_cell? w _ hx0)).trans hx0
      replace hx1 := (SR.out.below.cell (World.block_lt_of_cell? w _ hx1)).trans hx1
      replace hx2 := (SR.out.below.cell (World.block_lt_of_cell? w _ hx2)).trans hx2
      replace hx3 := (SR.out.below.cell (World.block_lt_of_cell? w _ hx3)).trans hx3
      replace hx4 := (SR.out.below.cell (World.block_lt_of_cell? w _ hx4)).trans hx4
      replace hx5 := (SR.out.below.cell (World.block_lt_of_cell? w _ hx5)).trans hx5
      go_upto_region 7 with (first | (refine box_hp SR.out 5 #[.int .i64 0, .int .i64 0, .int .i64 0, .int .i64 0, .string ⟨#[]⟩, .int .i64 0] 35 rfl ?_; intro eb w2 h_; have S2 := Aside0.mk h_; clear h_; clear hx0 hx1 hx2 hx3 hx4 hx5) | (refine store_struct (cs := #[.int .i64 0, .int .i64 0, .int .i64 0, .int .i64 0, .string ⟨#[]⟩, .int .i64 0]) (t := 35) (g := eb) (vs := [.int .i64 ev.f0, .int .i64 ev.f1, .int .i64 ev.f2, .int .i64 ev.f3, .string ev.f4, .int .i64 ev.f5]) rfl rfl rfl (by kernel_rfl) rfl rfl (S2.out.get 0 rfl) rfl rfl ?_; have h_ := S2.out.putAll 0 [.int .i64 ev.f0, .int .i64 ev.f1, .int .i64 ev.f2, .int .i64 ev.f3, .string ev.f4, .int .i64 ev.f5] rfl rfl; generalize w2.setCells eb 0 [.int .i64 ev.f0, .int .i64 ev.f1, .int .i64 ev.f2, .int .i64 ev.f3, .string ev.f4, .int .i64 ev.f5] = w3 at h_ ⊢; have S3 := Aside0.mk (show Hp w [blk eb (.cells #[.int .i64 ev.f0, .int .i64 ev.f1, .int .i64 ev.f2, .int .i64 ev.f3, .string ev.f4, .int .i64 ev.f5] 35 (0, 0)), mapI mb n F] w3 from h_); clear h_ S2))
      try go_wp2
      have HD := Aside0.mk S3.out.drew
      clear S3 SR
      obtain ⟨t, ht, h2⟩ := Option.bind_eq_some_iff.mp H1.out
      have HT0 := Aside0.mk ht
      have H2 := Aside0.mk h2
      clear ht h2 H1
      cases t with
      | false =>
        have h3 := H2.out
        rw [if_neg (by decide)] at h3
        obtain rfl := Option.some.inj h3
        clear h3 H2
        refine start_ (n := 26) (S := fun w' => w'.cell? ⟨eb, 0, none⟩ = some (.int .i64 ev.f0) ∧ w'.cell? ⟨eb, 1, none⟩ = some (.int .i64 ev.f1) ∧ w'.cell? ⟨eb, 2, none⟩ = some (.int .i64 ev.f2) ∧ w'.cell? ⟨eb, 3, none⟩ = some (.int .i64 ev.f3) ∧ w'.cell? ⟨eb, 4, none⟩ = some (.string ev.f4) ∧ w'.cell? ⟨eb, 5, none⟩ = some (.int .i64 ev.f5)) (ds := []) (xM 26 0) (by kernel_rfl) rfl rfl ⟨(HD.out.cell 0 rfl 0).trans rfl, (HD.out.cell 0 rfl 1).trans rfl, (HD.out.cell 0 rfl 2).trans rfl, (HD.out.cell 0 rfl 3).trans rfl, (HD.out.cell 0 rfl 4).trans rfl, (HD.out.cell 0 rfl 5).trans rfl⟩ (fun hHeld => ?_)
        refine with_tabW eo.tab7 eo.bits7 (fun HT_ HW_ => ?_)
        generalize w3.drew = wd_ at HD hHeld ⊢
        refine xQ 0 17 (xM 26 1) HT_ HW_ hHeld ?_
        refine one_ (i := 1) (N := some 18) (xM 26 3) rfl rfl (one_of HT_.out (by kernel_rfl)) (by decide) (fun K hK => ?_)
        refine goes_ Try.func53 (by kernel_rfl) rfl #[.agg #[.int .i64 ev.f0, .int .i64 ev.f1, .int .i64 ev.f2, .int .i64 ev.f3, .string ev.f4, .int .i64 ev.f5]] (by rfl) rfl rfl (by (try simp only [List.map_toArray, List.map_cons, List.map_nil]); first | done | rfl) ?_
        with_reducible refine (impl_isEvent.calls k1 ev.f0 ev.f1 ev.f2 ev.f3 ev.f4 ev.f5 false _ HT0.out).mono ?_
        rintro e w5 ⟨rfl, hb9⟩
        refine ⟨_, rfl, ?_⟩
        have S5 := Aside0.mk (HD.out.go hb9)
        clear hb9
        refine hK.out _ _ ⟨(S5.out.cell 0 rfl 0).trans rfl, (S5.out.cell 0 rfl 1).trans rfl, (S5.out.cell 0 rfl 2).trans rfl, (S5.out.cell 0 rfl 3).trans rfl, (S5.out.cell 0 rfl 4).trans rfl, (S5.out.cell 0 rfl 5).trans rfl⟩ (fun hHeld => ?_)
        clear hK K
        refine norm_ (a' := ?_) ?_ ?_
        rotate_left
        · show Act.put _ (some 18) _ = _
          simp only [Act.put, List.setIfInBounds_toArray, List.set_cons_zero, List.set_cons_succ, i64_w, i32_w]
          rfl
        refine xP 2 19 (xM 26 7) HT_ ?_
        refine xP 3 20 (xM 26 15) HT_ ?_
        refine xU 4 21 (xM 26 31) HT_ ?_
        refine xU 5 22 (xM 26 63) HT_ ?_
        refine xU 6 23 (xM 26 127) HT_ ?_
        refine xU 7 24 (xM 26 255) HT_ ?_
        refine xU 8 25 (xM 26 511) HT_ ?_
        refine xU 9 26 (xM 26 1023) HT_ ?_
        refine xU 10 27 (xM 26 2047) HT_ ?_
        refine xU 11 28 (xM 26 4095) HT_ ?_
        refine xU 12 29 (xM 26 8191) HT_ ?_
        refine xU 13 30 (xM 26 16383) HT_ ?_
        refine xU 14 31 (xM 26 32767) HT_ ?_
        refine xU 15 32 (xM 26 65535) HT_ ?_
        refine xP 16 33 (xM 26 131071) HT_ ?_
        refine xP 17 34 (xM 26 262143) HT_ ?_
        refine xU 18 35 (xM 26 524287) HT_ ?_
        refine xU 19 36 (xM 26 1048575) HT_ ?_
        refine xU 20 37 (xM 26 2097151) HT_ ?_
        refine xU 21 38 (xM 26 4194303) HT_ ?_
        refine xU 22 39 (xM 26 8388607) HT_ ?_
        refine xU 23 40 (xM 26 16777215) HT_ ?_
        refine xU 24 41 (xM 26 33554431) HT_ ?_
        refine xP 25 42 (xM 26 67108863) HT_ ?_
        refine done_ (done_of HT_.out (by kernel_rfl)) ?_
        clear HT_ HW_ hHeld
        go_wp2
        go_ret
        exact ⟨rfl, S5.out.below⟩
      | true =>
        have h3 := H2.out
        rw [if_pos rfl] at h3
        have hin := ev_in HT0.out
        have hw0 : (Lit.int .i64 ev.f0).wf = true := WalkArith.wf_i64 (by omega)
        have hw1 : (Lit.int .i64 ev.f1).wf = true := WalkArith.wf_i64 (by omega)
        have W0 := Aside0.mk hw0
        have W1 := Aside0.mk hw1
        clear hw0 hw1 hin H2
        obtain ⟨c, hc, h4⟩ := Option.bind_eq_some_iff.mp h3
        have HC := Aside0.mk hc
        have H4 := Aside0.mk h4
        clear hc h4 h3
        by_cases hi0 : 0 < i
        rotate_left
        · have hc2 := HC.out
          rw [if_neg hi0] at hc2
          obtain rfl := Option.some.inj hc2
          have HCN := Aside0.mk (show ¬ (-1 : Int) ≥ 0 by decide)
          have hib : decide (0 < (i : Int)) = false := decide_eq_false (by omega)
          have hib2 : decide (0 < i) = false := decide_eq_false hi0
          have hib3 : decide ((i : Int) > 0) = false := decide_eq_false (by omega)
          clear hc2 hi0
          refine start_ (n := 26) (S := fun w' => w'.cell? ⟨eb, 0, none⟩ = some (.int .i64 ev.f0) ∧ w'.cell? ⟨eb, 1, none⟩ = some (.int .i64 ev.f1) ∧ w'.cell? ⟨eb, 2, none⟩ = some (.int .i64 ev.f2) ∧ w'.cell? ⟨eb, 3, none⟩ = some (.int .i64 ev.f3) ∧ w'.cell? ⟨eb, 4, none⟩ = some (.string ev.f4) ∧ w'.cell? ⟨eb, 5, none⟩ = some (.int .i64 ev.f5) ∧ (Instr.lookup 76 (.map (some mb)) (.int .i64 ev.f0) false).run Try.prog w' = .ok (.int .i64 (F ev.f0)) w') (ds := []) (xM 26 0) (by kernel_rfl) rfl rfl ⟨(HD.out.cell 0 rfl 0).trans rfl, (HD.out.cell 0 rfl 1).trans rfl, (HD.out.cell 0 rfl 2).trans rfl, (HD.out.cell 0 rfl 3).trans rfl, (HD.out.cell 0 rfl 4).trans rfl, (HD.out.cell 0 rfl 5).trans rfl, (HD.out.map 1 rfl).look W0.out hu76⟩ (fun hHeld => ?_)
          refine with_tabW eo.tab7 eo.bits7 (fun HT_ HW_ => ?_)
          generalize w3.drew = wd_ at HD hHeld ⊢
          refine xQ 0 17 (xM 26 1) HT_ HW_ hHeld ?_
          refine one_ (i := 1) (N := some 18) (xM 26 3) rfl rfl (one_of HT_.out (by kernel_rfl)) (by decide) (fun K hK => ?_)
          refine goes_ Try.func53 (by kernel_rfl) rfl #[.agg #[.int .i64 ev.f0, .int .i64 ev.f1, .int .i64 ev.f2, .int .i64 ev.f3, .string ev.f4, .int .i64 ev.f5]] (by rfl) rfl rfl (by (try simp only [List.map_toArray, List.map_cons, List.map_nil]); first | done | rfl) ?_
          with_reducible refine (impl_isEvent.calls k1 ev.f0 ev.f1 ev.f2 ev.f3 ev.f4 ev.f5 true _ HT0.out).mono ?_
          rintro e w5 ⟨rfl, hb9⟩
          refine ⟨_, rfl, ?_⟩
          have S5 := Aside0.mk (HD.out.go hb9)
          clear hb9
          refine hK.out _ _ ⟨(S5.out.cell 0 rfl 0).trans rfl, (S5.out.cell 0 rfl 1).trans rfl, (S5.out.cell 0 rfl 2).trans rfl, (S5.out.cell 0 rfl 3).trans rfl, (S5.out.cell 0 rfl 4).trans rfl, (S5.out.cell 0 rfl 5).trans rfl, (S5.out.map 1 rfl).look W0.out hu76⟩ (fun hHeld => ?_)
          clear hK K
          refine norm_ (a' := ?_) ?_ ?_
          rotate_left
          · show Act.put _ (some 18) _ = _
            simp only [Act.put, List.setIfInBounds_toArray, List.set_cons_zero, List.set_cons_succ, i64_w, i32_w]
            rfl
          refine xP 2 19 (xM 26 7) HT_ ?_
          refine xP 3 20 (xM 26 15) HT_ ?_
          refine xP 4 21 (xM 26 31) HT_ ?_
          refine xP 5 22 (xM 26 63) HT_ ?_
          try rw [hib3]
          refine xP 6 23 (xM 26 127) HT_ ?_
          refine xU 7 24 (xM 26 255) HT_ ?_
          refine xU 8 25 (xM 26 511) HT_ ?_
          refine xU 9 26 (xM 26 1023) HT_ ?_
          refine xU 10 27 (xM 26 2047) HT_ ?_
          refine xU 11 28 (xM 26 4095) HT_ ?_
          refine xU 12 29 (xM 26 8191) HT_ ?_
          refine xU 13 30 (xM 26 16383) HT_ ?_
          refine xU 14 31 (xM 26 32767) HT_ ?_
          refine xP 15 32 (xM 26 65535) HT_ ?_
          refine xP 16 33 (xM 26 131071) HT_ ?_
          refine xP 17 34 (xM 26 262143) HT_ ?_
          refine xP 18 35 (xM 26 524287) HT_ ?_
          refine xP 19 36 (xM 26 1048575) HT_ ?_
          refine xQ 20 37 (xM 26 2097151) HT_ HW_ hHeld ?_
          refine xQ 21 38 (xM 26 4194303) HT_ HW_ hHeld ?_
          refine xP 22 39 (xM 26 8388607) HT_ ?_
          refine xQ 23 40 (xM 26 16777215) HT_ HW_ hHeld ?_
          by_cases hq : F ev.f0 ≥ ev.f1
          · have hqb : decide (F ev.f0 ≥ ev.f1) = true := decide_eq_true hq
            have h5 := H4.out
            rw [if_neg HCN.out, if_pos hq] at h5
            obtain rfl := Option.some.inj h5
            clear h5 hq
            refine xP 24 41 (xM 26 33554431) HT_ ?_
            try rw [hqb]
            refine xP 25 42 (xM 26 67108863) HT_ ?_
            refine done_ (done_of HT_.out (by kernel_rfl)) ?_
            clear HT_ HW_ hHeld
            go_wp2
            go_ret
            exact ⟨rfl, S5.out.below⟩
          · have hqb : decide (F ev.f0 ≥ ev.f1) = false := decide_eq_false hq
            have h5 := H4.out
            rw [if_neg HCN.out, if_neg hq] at h5
            have H5 := Aside0.mk h5
            clear h5 hq
            refine xP 24 41 (xM 26 33554431) HT_ ?_
            try rw [hqb]
            refine xP 25 42 (xM 26 67108863) HT_ ?_
            refine done_ (done_of HT_.out (by kernel_rfl)) ?_
            clear HT_ HW_ hHeld
            have ze0 := (S5.out.cell 0 rfl 0).trans rfl
            have ze1 := (S5.out.cell 0 rfl 1).trans rfl
            go_wp2_with (first | (at_mapUpdate; refine mapset_hp S5.out 1 rfl NB.out W0.out W1.out rfl hu76 rfl rfl rfl ?_ rfl; intro w9 h_; have S9 := Aside0.mk h_; clear h_))
            go_roundg k1
            case measure => exact Nat.lt_succ_self _
            case rel => exact ⟨upI F ev.f0 ev.f1, i + 1, n + 1, by simp, H5, ⟨HI.out⟩, ⟨Nat.succ_le_succ GN.out⟩, ⟨S9.out.tail⟩⟩
        have hc2 := HC.out
        rw [if_pos hi0] at hc2
        have HC2 := Aside0.mk hc2
        have hib : decide (0 < (i : Int)) = true := decide_eq_true (by omega)
        have hib2 : decide (0 < i) = true := decide_eq_true hi0
        have hib3 : decide ((i : Int) > 0) = true := decide_eq_true (by omega)
        have HI0 := Aside0.mk hi0
        clear hc2 hi0 HC
        obtain ⟨j, hj⟩ : ∃ j : Nat, (i : Int) - 1 = (j : Int) := ⟨i - 1, by have := HI0.out; omega⟩
        have hj0 : j < l0.length := by have := HI.out; omega
        have hj1 : j < 9223372036854775807 := by have := HI.out; have := HL.out; omega
        have hc3 := HC2.out
        rw [hj] at hc3
        obtain ⟨ad', e', hy0, hy1, hy2, hy3, hy4, hy5⟩ := at_T35 HR.out (j : Int) (by omega) (by omega)
        cases e'
        rw [Int.toNat_natCast] at hy0 hy1 hy2 hy3 hy4 hy5
        obtain ⟨pv, hpv⟩ : ∃ pv, pv = rd_T35 l0 (j : Int) := ⟨_, rfl⟩
        rw [← hpv] at hc3 hy0 hy1 hy2 hy3 hy4 hy5
        have HC3 := Aside0.mk hc3
        have HY := Aside0.mk (show _ ∧ _ ∧ _ ∧ _ ∧ _ ∧ _ from ⟨hy0, hy1, hy2, hy3, hy4, hy5⟩)
        have HWJ := Aside0.mk (show wrap64 ((i : Int) - 1) = (j : Int) by rw [hj]; unfold wrap64; omega)
        have hq0 : (0 ≤ (j : Int)) = True := eq_true (by omega)
        have hq1 : ((j : Int) < (l0.length : Int)) = True := eq_true (by omega)
        have hq2 : (j < l0.length) = True := eq_true hj0
        clear hy0 hy1 hy2 hy3 hy4 hy5 hj hpv hc3 HC2 hj1
        by_cases hcc : c ≥ 0
        · have hcb : decide (c ≥ 0) = true := decide_eq_true hcc
          have hcb2 : decide (0 ≤ c) = true := decide_eq_true hcc
          have h5 := H4.out
          rw [if_pos hcc] at h5
          obtain rfl := Option.some.inj h5
          clear h5 hcc H4
          refine start_ (n := 26) (S := fun w' => w'.cell? ⟨eb, 0, none⟩ = some (.int .i64 ev.f0) ∧ w'.cell? ⟨eb, 1, none⟩ = some (.int .i64 ev.f1) ∧ w'.cell? ⟨eb, 2, none⟩ = some (.int .i64 ev.f2) ∧ w'.cell? ⟨eb, 3, none⟩ = some (.int .i64 ev.f3) ∧ w'.cell? ⟨eb, 4, none⟩ = some (.string ev.f4) ∧ w'.cell? ⟨eb, 5, none⟩ = some (.int .i64 ev.f5) ∧ w'.cell? (ad.add (j * 6)) = some (.int .i64 pv.f0) ∧ w'.cell? ⟨(ad.add (j * 6)).block, (ad.add (j * 6)).off + 1, none⟩ = some (.int .i64 pv.f1) ∧ w'.cell? ⟨(ad.add (j * 6)).block, (ad.add (j * 6)).off + 2, none⟩ = some (.int .i64 pv.f2) ∧ w'.cell? ⟨(ad.add (j * 6)).block, (ad.add (j * 6)).off + 3, none⟩ = some (.int .i64 pv.f3) ∧ w'.cell? ⟨(ad.add (j * 6)).block, (ad.add (j * 6)).off + 4, none⟩ = some (.string pv.f4) ∧ w'.cell? ⟨(ad.add (j * 6)).block, (ad.add (j * 6)).off + 5, none⟩ = some (.int .i64 pv.f5)) (ds := []) (xM 26 0) (by kernel_rfl) rfl rfl ⟨(HD.out.cell 0 rfl 0).trans rfl, (HD.out.cell 0 rfl 1).trans rfl, (HD.out.cell 0 rfl 2).trans rfl, (HD.out.cell 0 rfl 3).trans rfl, (HD.out.cell 0 rfl 4).trans rfl, (HD.out.cell 0 rfl 5).trans rfl, (HD.out.below.cell (World.block_lt_of_cell? w _ HY.out.1)).trans HY.out.1, (HD.out.below.cell (World.block_lt_of_cell? w _ HY.out.2.1)).trans HY.out.2.1, (HD.out.below.cell (World.block_lt_of_cell? w _ HY.out.2.2.1)).trans HY.out.2.2.1, (HD.out.below.cell (World.block_lt_of_cell? w _ HY.out.2.2.2.1)).trans HY.out.2.2.2.1, (HD.out.below.cell (World.block_lt_of_cell? w _ HY.out.2.2.2.2.1)).trans HY.out.2.2.2.2.1, (HD.out.below.cell (World.block_lt_of_cell? w _ HY.out.2.2.2.2.2)).trans HY.out.2.2.2.2.2⟩ (fun hHeld => ?_)
          refine with_tabW eo.tab7 eo.bits7 (fun HT_ HW_ => ?_)
          generalize w3.drew = wd_ at HD hHeld ⊢
          refine xQ 0 17 (xM 26 1) HT_ HW_ hHeld ?_
          refine one_ (i := 1) (N := some 18) (xM 26 3) rfl rfl (one_of HT_.out (by kernel_rfl)) (by decide) (fun K hK => ?_)
          refine goes_ Try.func53 (by kernel_rfl) rfl #[.agg #[.int .i64 ev.f0, .int .i64 ev.f1, .int .i64 ev.f2, .int .i64 ev.f3, .string ev.f4, .int .i64 ev.f5]] (by rfl) rfl rfl (by (try simp only [List.map_toArray, List.map_cons, List.map_nil]); first | done | rfl) ?_
          with_reducible refine (impl_isEvent.calls k1 ev.f0 ev.f1 ev.f2 ev.f3 ev.f4 ev.f5 true _ HT0.out).mono ?_
          rintro e w5 ⟨rfl, hb9⟩
          refine ⟨_, rfl, ?_⟩
          have S5 := Aside0.mk (HD.out.go hb9)
          clear hb9
          refine hK.out _ _ ⟨(S5.out.cell 0 rfl 0).trans rfl, (S5.out.cell 0 rfl 1).trans rfl, (S5.out.cell 0 rfl 2).trans rfl, (S5.out.cell 0 rfl 3).trans rfl, (S5.out.cell 0 rfl 4).trans rfl, (S5.out.cell 0 rfl 5).trans rfl, (S5.out.below.cell (World.block_lt_of_cell? w _ HY.out.1)).trans HY.out.1, (S5.out.below.cell (World.block_lt_of_cell? w _ HY.out.2.1)).trans HY.out.2.1, (S5.out.below.cell (World.block_lt_of_cell? w _ HY.out.2.2.1)).trans HY.out.2.2.1, (S5.out.below.cell (World.block_lt_of_cell? w _ HY.out.2.2.2.1)).trans HY.out.2.2.2.1, (S5.out.below.cell (World.block_lt_of_cell? w _ HY.out.2.2.2.2.1)).trans HY.out.2.2.2.2.1, (S5.out.below.cell (World.block_lt_of_cell? w _ HY.out.2.2.2.2.2)).trans HY.out.2.2.2.2.2⟩ (fun hHeld => ?_)
          clear hK K
          refine norm_ (a' := ?_) ?_ ?_
          rotate_left
          · show Act.put _ (some 18) _ = _
            simp only [Act.put, List.setIfInBounds_toArray, List.set_cons_zero, List.set_cons_succ, i64_w, i32_w]
            rfl
          refine xP 2 19 (xM 26 7) HT_ ?_
          refine xP 3 20 (xM 26 15) HT_ ?_
          refine xP 4 21 (xM 26 31) HT_ ?_
          refine xP 5 22 (xM 26 63) HT_ ?_
          try rw [hib3]
          refine xP 6 23 (xM 26 127) HT_ ?_
          refine xP 7 24 (xM 26 255) HT_ ?_
          refine xP 8 25 (xM 26 511) HT_ ?_
          refine xP 9 26 (xM 26 1023) HT_ ?_
          rw [HWJ.out]
          refine xP 10 27 (xM 26 2047) HT_ ?_
          refine xQ 11 28 (xM 26 4095) HT_ HW_ hHeld ?_
          refine xQ 12 29 (xM 26 8191) HT_ HW_ hHeld ?_
          refine one_ (i := 13) (N := some 30) (xM 26 16383) rfl rfl (one_of HT_.out (by kernel_rfl)) (by decide) (fun K hK => ?_)
          refine goes_ Try.func47 (by kernel_rfl) rfl #[.agg #[.int .i64 pv.f0, .int .i64 pv.f1, .int .i64 pv.f2, .int .i64 pv.f3, .string pv.f4, .int .i64 pv.f5], .agg #[.int .i64 ev.f0, .int .i64 ev.f1, .int .i64 ev.f2, .int .i64 ev.f3, .string ev.f4, .int .i64 ev.f5]] (by rfl) rfl rfl (by (try simp only [List.map_toArray, List.map_cons, List.map_nil]); first | done | rfl) ?_
          with_reducible refine (impl_compareEvents.calls k1 pv.f0 pv.f1 pv.f2 pv.f3 pv.f4 pv.f5 ev.f0 ev.f1 ev.f2 ev.f3 ev.f4 ev.f5 c _ HC3.out).mono ?_
          rintro e w6 ⟨rfl, hb9⟩
          refine ⟨_, rfl, ?_⟩
          have S6 := Aside0.mk (S5.out.go hb9)
          clear hb9
          refine hK.out _ _ ⟨(S6.out.cell 0 rfl 0).trans rfl, (S6.out.cell 0 rfl 1).trans rfl, (S6.out.cell 0 rfl 2).trans rfl, (S6.out.cell 0 rfl 3).trans rfl, (S6.out.cell 0 rfl 4).trans rfl, (S6.out.cell 0 rfl 5).trans rfl, (S6.out.below.cell (World.block_lt_of_cell? w _ HY.out.1)).trans HY.out.1, (S6.out.below.cell (World.block_lt_of_cell? w _ HY.out.2.1)).trans HY.out.2.1, (S6.out.below.cell (World.block_lt_of_cell? w _ HY.out.2.2.1)).trans HY.out.2.2.1, (S6.out.below.cell (World.block_lt_of_cell? w _ HY.out.2.2.2.1)).trans HY.out.2.2.2.1, (S6.out.below.cell (World.block_lt_of_cell? w _ HY.out.2.2.2.2.1)).trans HY.out.2.2.2.2.1, (S6.out.below.cell (World.block_lt_of_cell? w _ HY.out.2.2.2.2.2)).trans HY.out.2.2.2.2.2⟩ (fun hHeld => ?_)
          clear hK K
          refine norm_ (a' := ?_) ?_ ?_
          rotate_left
          · show Act.put _ (some 30) _ = _
            simp only [Act.put, List.setIfInBounds_toArray, List.set_cons_zero, List.set_cons_succ, i64_w, i32_w]
            rfl
          refine xP 14 31 (xM 26 32767) HT_ ?_
          try rw [hcb]
          refine xP 15 32 (xM 26 65535) HT_ ?_
          refine xP 16 33 (xM 26 131071) HT_ ?_
          refine xP 17 34 (xM 26 262143) HT_ ?_
          refine xU 18 35 (xM 26 524287) HT_ ?_
          refine xU 19 36 (xM 26 1048575) HT_ ?_
          refine xU 20 37 (xM 26 2097151) HT_ ?_
          refine xU 21 38 (xM 26 4194303) HT_ ?_
          refine xU 22 39 (xM 26 8388607) HT_ ?_
          refine xU 23 40 (xM 26 16777215) HT_ ?_
          refine xU 24 41 (xM 26 33554431) HT_ ?_
          refine xP 25 42 (xM 26 67108863) HT_ ?_
          refine done_ (done_of HT_.out (by kernel_rfl)) ?_
          clear HT_ HW_ hHeld
          go_wp2
          go_ret
          exact ⟨rfl, S6.out.below⟩
        · have hcb : decide (c ≥ 0) = false := decide_eq_false hcc
          have hcb2 : decide (0 ≤ c) = false := decide_eq_false hcc
          have HCN := Aside0.mk hcc
          clear hcc
          refine start_ (n := 26) (S := fun w' => w'.cell? ⟨eb, 0, none⟩ = some (.int .i64 ev.f0) ∧ w'.cell? ⟨eb, 1, none⟩ = some (.int .i64 ev.f1) ∧ w'.cell? ⟨eb, 2, none⟩ = some (.int .i64 ev.f2) ∧ w'.cell? ⟨eb, 3, none⟩ = some (.int .i64 ev.f3) ∧ w'.cell? ⟨eb, 4, none⟩ = some (.string ev.f4) ∧ w'.cell? ⟨eb, 5, none⟩ = some (.int .i64 ev.f5) ∧ (Instr.lookup 76 (.map (some mb)) (.int .i64 ev.f0) false).run Try.prog w' = .ok (.int .i64 (F ev.f0)) w' ∧ w'.cell? (ad.add (j * 6)) = some (.int .i64 pv.f0) ∧ w'.cell? ⟨(ad.add (j * 6)).block, (ad.add (j * 6)).off + 1, none⟩ = some (.int .i64 pv.f1) ∧ w'.cell? ⟨(ad.add (j * 6)).block, (ad.add (j * 6)).off + 2, none⟩ = some (.int .i64 pv.f2) ∧ w'.cell? ⟨(ad.add (j * 6)).block, (ad.add (j * 6)).off + 3, none⟩ = some (.int .i64 pv.f3) ∧ w'.cell? ⟨(ad.add (j * 6)).block, (ad.add (j * 6)).off + 4, none⟩ = some (.string pv.f4) ∧ w'.cell? ⟨(ad.add (j * 6)).block, (ad.add (j * 6)).off + 5, none⟩ = some (.int .i64 pv.f5)) (ds := []) (xM 26 0) (by kernel_rfl) rfl rfl ⟨(HD.out.cell 0 rfl 0).trans rfl, (HD.out.cell 0 rfl 1).trans rfl, (HD.out.cell 0 rfl 2).trans rfl, (HD.out.cell 0 rfl 3).trans rfl, (HD.out.cell 0 rfl 4).trans rfl, (HD.out.cell 0 rfl 5).trans rfl, (HD.out.map 1 rfl).look W0.out hu76, (HD.out.below.cell (World.block_lt_of_cell? w _ HY.out.1)).trans HY.out.1, (HD.out.below.cell (World.block_lt_of_cell? w _ HY.out.2.1)).trans HY.out.2.1, (HD.out.below.cell (World.block_lt_of_cell? w _ HY.out.2.2.1)).trans HY.out.2.2.1, (HD.out.below.cell (World.block_lt_of_cell? w _ HY.out.2.2.2.1)).trans HY.out.2.2.2.1, (HD.out.below.cell (World.block_lt_of_cell? w _ HY.out.2.2.2.2.1)).trans HY.out.2.2.2.2.1, (HD.out.below.cell (World.block_lt_of_cell? w _ HY.out.2.2.2.2.2)).trans HY.out.2.2.2.2.2⟩ (fun hHeld => ?_)
          refine with_tabW eo.tab7 eo.bits7 (fun HT_ HW_ => ?_)
          generalize w3.drew = wd_ at HD hHeld ⊢
          refine xQ 0 17 (xM 26 1) HT_ HW_ hHeld ?_
          refine one_ (i := 1) (N := some 18) (xM 26 3) rfl rfl (one_of HT_.out (by kernel_rfl)) (by decide) (fun K hK => ?_)
          refine goes_ Try.func53 (by kernel_rfl) rfl #[.agg #[.int .i64 ev.f0, .int .i64 ev.f1, .int .i64 ev.f2, .int .i64 ev.f3, .string ev.f4, .int .i64 ev.f5]] (by rfl) rfl rfl (by (try simp only [List.map_toArray, List.map_cons, List.map_nil]); first | done | rfl) ?_
          with_reducible refine (impl_isEvent.calls k1 ev.f0 ev.f1 ev.f2 ev.f3 ev.f4 ev.f5 true _ HT0.out).mono ?_
          rintro e w5 ⟨rfl, hb9⟩
          refine ⟨_, rfl, ?_⟩
          have S5 := Aside0.mk (HD.out.go hb9)
          clear hb9
          refine hK.out _ _ ⟨(S5.out.cell 0 rfl 0).trans rfl, (S5.out.cell 0 rfl 1).trans rfl, (S5.out.cell 0 rfl 2).trans rfl, (S5.out.cell 0 rfl 3).trans rfl, (S5.out.cell 0 rfl 4).trans rfl, (S5.out.cell 0 rfl 5).trans rfl, (S5.out.map 1 rfl).look W0.out hu76, (S5.out.below.cell (World.block_lt_of_cell? w _ HY.out.1)).trans HY.out.1, (S5.out.below.cell (World.block_lt_of_cell? w _ HY.out.2.1)).trans HY.out.2.1, (S5.out.below.cell (World.block_lt_of_cell? w _ HY.out.2.2.1)).trans HY.out.2.2.1, (S5.out.below.cell (World.block_lt_of_cell? w _ HY.out.2.2.2.1)).trans HY.out.2.2.2.1, (S5.out.below.cell (World.block_lt_of_cell? w _ HY.out.2.2.2.2.1)).trans HY.out.2.2.2.2.1, (S5.out.below.cell (World.block_lt_of_cell? w _ HY.out.2.2.2.2.2)).trans HY.out.2.2.2.2.2⟩ (fun hHeld => ?_)
          clear hK K
          refine norm_ (a' := ?_) ?_ ?_
          rotate_left
          · show Act.put _ (some 18) _ = _
            simp only [Act.put, List.setIfInBounds_toArray, List.set_cons_zero, List.set_cons_succ, i64_w, i32_w]
            rfl
          refine xP 2 19 (xM 26 7) HT_ ?_
          refine xP 3 20 (xM 26 15) HT_ ?_
          refine xP 4 21 (xM 26 31) HT_ ?_
          refine xP 5 22 (xM 26 63) HT_ ?_
          try rw [hib3]
          refine xP 6 23 (xM 26 127) HT_ ?_
          refine xP 7 24 (xM 26 255) HT_ ?_
          refine xP 8 25 (xM 26 511) HT_ ?_
          refine xP 9 26 (xM 26 1023) HT_ ?_
          rw [HWJ.out]
          refine xP 10 27 (xM 26 2047) HT_ ?_
          refine xQ 11 28 (xM 26 4095) HT_ HW_ hHeld ?_
          refine xQ 12 29 (xM 26 8191) HT_ HW_ hHeld ?_
          refine one_ (i := 13) (N := some 30) (xM 26 16383) rfl rfl (one_of HT_.out (by kernel_rfl)) (by decide) (fun K hK => ?_)
          refine goes_ Try.func47 (by kernel_rfl) rfl #[.agg #[.int .i64 pv.f0, .int .i64 pv.f1, .int .i64 pv.f2, .int .i64 pv.f3, .string pv.f4, .int .i64 pv.f5], .agg #[.int .i64 ev.f0, .int .i64 ev.f1, .int .i64 ev.f2, .int .i64 ev.f3, .string ev.f4, .int .i64 ev.f5]] (by rfl) rfl rfl (by (try simp only [List.map_toArray, List.map_cons, List.map_nil]); first | done | rfl) ?_
          with_reducible refine (impl_compareEvents.calls k1 pv.f0 pv.f1 pv.f2 pv.f3 pv.f4 pv.f5 ev.f0 ev.f1 ev.f2 ev.f3 ev.f4 ev.f5 c _ HC3.out).mono ?_
          rintro e w6 ⟨rfl, hb9⟩
          refine ⟨_, rfl, ?_⟩
          have S6 := Aside0.mk (S5.out.go hb9)
          clear hb9
          refine hK.out _ _ ⟨(S6.out.cell 0 rfl 0).trans rfl, (S6.out.cell 0 rfl 1).trans rfl, (S6.out.cell 0 rfl 2).trans rfl, (S6.out.cell 0 rfl 3).trans rfl, (S6.out.cell 0 rfl 4).trans rfl, (S6.out.cell 0 rfl 5).trans rfl, (S6.out.map 1 rfl).look W0.out hu76, (S6.out.below.cell (World.block_lt_of_cell? w _ HY.out.1)).trans HY.out.1, (S6.out.below.cell (World.block_lt_of_cell? w _ HY.out.2.1)).trans HY.out.2.1, (S6.out.below.cell (World.block_lt_of_cell? w _ HY.out.2.2.1)).trans HY.out.2.2.1, (S6.out.below.cell (World.block_lt_of_cell? w _ HY.out.2.2.2.1)).trans HY.out.2.2.2.1, (S6.out.below.cell (World.block_lt_of_cell? w _ HY.out.2.2.2.2.1)).trans HY.out.2.2.2.2.1, (S6.out.below.cell (World.block_lt_of_cell? w _ HY.out.2.2.2.2.2)).trans HY.out.2.2.2.2.2⟩ (fun hHeld => ?_)
          clear hK K
          refine norm_ (a' := ?_) ?_ ?_
          rotate_left
          · show Act.put _ (some 30) _ = _
            simp only [Act.put, List.setIfInBounds_toArray, List.set_cons_zero, List.set_cons_succ, i64_w, i32_w]
            rfl
          refine xP 14 31 (xM 26 32767) HT_ ?_
          try rw [hcb]
          refine xP 15 32 (xM 26 65535) HT_ ?_
          refine xP 16 33 (xM 26 131071) HT_ ?_
          refine xP 17 34 (xM 26 262143) HT_ ?_
          refine xP 18 35 (xM 26 524287) HT_ ?_
          refine xP 19 36 (xM 26 1048575) HT_ ?_
          refine xQ 20 37 (xM 26 2097151) HT_ HW_ hHeld ?_
          refine xQ 21 38 (xM 26 4194303) HT_ HW_ hHeld ?_
          refine xP 22 39 (xM 26 8388607) HT_ ?_
          refine xQ 23 40 (xM 26 16777215) HT_ HW_ hHeld ?_
          by_cases hq : F ev.f0 ≥ ev.f1
          · have hqb : decide (F ev.f0 ≥ ev.f1) = true := decide_eq_true hq
            have h5 := H4.out
            rw [if_neg HCN.out, if_pos hq] at h5
            obtain rfl := Option.some.inj h5
            clear h5 hq
            refine xP 24 41 (xM 26 33554431) HT_ ?_
            try rw [hqb]
            refine xP 25 42 (xM 26 67108863) HT_ ?_
            refine done_ (done_of HT_.out (by kernel_rfl)) ?_
            clear HT_ HW_ hHeld
            go_wp2
            go_ret
            exact ⟨rfl, S6.out.below⟩
          · have hqb : decide (F ev.f0 ≥ ev.f1) = false := decide_eq_false hq
            have h5 := H4.out
            rw [if_neg HCN.out, if_neg hq] at h5
            have H5 := Aside0.mk h5
            clear h5 hq
            refine xP 24 41 (xM 26 33554431) HT_ ?_
            try rw [hqb]
            refine xP 25 42 (xM 26 67108863) HT_ ?_
            refine done_ (done_of HT_.out (by kernel_rfl)) ?_
            clear HT_ HW_ hHeld
            have ze0 := (S6.out.cell 0 rfl 0).trans rfl
            have ze1 := (S6.out.cell 0 rfl 1).trans rfl
            go_wp2_with (first | (at_mapUpdate; refine mapset_hp S6.out 1 rfl NB.out W0.out W1.out rfl hu76 rfl rfl rfl ?_ rfl; intro w9 h_; have S9 := Aside0.mk h_; clear h_))
            go_roundg k1
            case measure => exact Nat.lt_succ_self _
            case rel => exact ⟨upI F ev.f0 ev.f1, i + 1, n + 1, by simp, H5, ⟨HI.out⟩, ⟨Nat.succ_le_succ GN.out⟩, ⟨S9.out.tail⟩⟩

/-! ### impl_Event_24: function 24 -/
def impl_Event_24.f (l0 : List (S35)) : Option (Bool) := some (decide ((l0.length : Int) ≤ 4096))
set_option maxHeartbeats 64000000 in
set_option maxRecDepth 100000 in
theorem impl_Event_24.calls (A0 : Option Addr) (c0 : Nat) (l0 : List (S35)) (r : Bool) (w : World) (hr0 : Kd.C k35 w A0 l0.length l0) (hc0 : l0.length ≤ c0) (h : impl_Event_24.f l0 = some r) :
    Calls Try.prog 24 #[.slice A0 l0.length c0] w fun e w' => e = .returned (.bool r) ∧ Drawn0 w w' := by
  have HR0 := Aside0.mk hr0
  have HC0 := Aside0.mk hc0
  clear hr0 hc0
  have H : (some (decide ((l0.length : Int) ≤ 4096))) = some r := h
  clear h
  obtain rfl := Option.some.inj H
  go_enter Try.func24, Try.ntmps24
  go_wp2
  go_ret
  exact ⟨by first | rfl | (simp; done) | (simp [*]; done), by repeat (first | exact Drawn0.refl _ | apply Drawn0.step)⟩

/-! ### slices_Index_string_string: function 65 -/
def slices_Index_string_string.l0 : Nat → List ByteArray → ByteArray → Int → Int → Option (Int)
  | 0, _, _, _, _ => none
  | k + 1, x0, x1, x7, x8 => if x8 < x7 then (if 0 ≤ x8 then (if x8 < (x0.length : Int) then (if x1.toList = (rdOf ByteArray.empty x0 x8).toList then (some x8) else (slices_Index_string_string.l0 k x0 x1 x7 (wrap64 (x8 + 1)))) else (none)) else (none)) else (some (-1))
def slices_Index_string_string.f (k : Nat) (l0 : List ByteArray) (a1 : ByteArray) : Option (Int) := slices_Index_string_string.l0 k l0 a1 (l0.length : Int) 0
theorem slices_Index_string_string.mono_l : ∀ k, (∀ y0 y1 y2 y3, LeO (slices_Index_string_string.l0 k y0 y1 y2 y3) (slices_Index_string_string.l0 (k + 1) y0 y1 y2 y3))
  | 0 => fun _ _ _ _ r h => by simp [slices_Index_string_string.l0] at h
  | k + 1 => by
    have ih0 := slices_Index_string_string.mono_l k
    · intro y0 y1 y2 y3
      unfold slices_Index_string_string.l0
      repeat' first
      | (with_reducible exact ih0 _ _ _ _)
      | (with_reducible exact LeO.refl _)
      | (with_reducible exact LeO.none _)
      | (with_reducible refine LeO.ite ?_ ?_)
      | (with_reducible refine LeO.bind ?_ (fun _ => ?_))
      | exact ih0 _ _ _ _
      | exact LeO.none _
      | refine LeO.ite ?_ ?_
      | refine LeO.bind ?_ (fun _ => ?_)
theorem slices_Index_string_string.mono : ∀ a0 a1 k, LeO (slices_Index_string_string.f k a0 a1) (slices_Index_string_string.f (k + 1) a0 a1) := by
  intro a0 a1 k
  have ih0 := slices_Index_string_string.mono_l k
  unfold slices_Index_string_string.f
  repeat' first
      | (with_reducible exact ih0 _ _ _ _)
      | (with_reducible exact LeO.refl _)
      | (with_reducible exact LeO.none _)
      | (with_reducible refine LeO.ite ?_ ?_)
      | (with_reducible refine LeO.bind ?_ (fun _ => ?_))
      | exact ih0 _ _ _ _
      | exact LeO.none _
      | refine LeO.ite ?_ ?_
      | refine LeO.bind ?_ (fun _ => ?_)
set_option maxHeartbeats 64000000 in
set_option maxRecDepth 100000 in
theorem slices_Index_string_string.calls (k : Nat) (A0 : Option Addr) (c0 : Nat) (l0 : List ByteArray) (a1 : ByteArray) (r : Int) (w : World) (hr0 : Kd.C Kd.string w A0 l0.length l0) (hc0 : l0.length ≤ c0) (h : slices_Index_string_string.f k l0 a1 = some r) :
    Calls Try.prog 65 #[.slice A0 l0.length c0, .string a1] w fun e w' => e = .returned (.int .i64 r) ∧ Drawn0 w w' := by
  have HR0 := Aside0.mk hr0
  have HC0 := Aside0.mk hc0
  clear hr0 hc0
  have H : (slices_Index_string_string.l0 k l0 a1 (l0.length : Int) 0) = some r := h
  clear h
  have H' := Aside0.mk H
  clear H
  go_enter Try.func65, Try.ntmps65
  go_wp2
  go_loopg [8] k (fun kq v8 w' => ∃ (x8_1 : Int), v8 = .int .i64 x8_1 ∧ Aside0 (slices_Index_string_string.l0 kq l0 a1 (l0.length : Int) x8_1 = some r) ∧ Aside0 (kq ≤ k) ∧ Drawn0 w w')
  case atStart => exact ⟨(0), (by first | rfl | (simp; done) | (simp [*]; done)), H', ⟨Nat.le_refl _⟩, by repeat (first | exact Drawn0.refl _ | apply Drawn0.step)⟩
  case round =>
    clear H'
    try clear p2
    obtain ⟨x8_1, rfl, HA, HK1, ⟨m1, rfl⟩⟩ := hrel
    cases gk with
    | zero => exact absurd HA.out (by simp [slices_Index_string_string.l0])
    | succ k1 =>
      have H := HA.out
      clear HA
      simp only [slices_Index_string_string.l0] at H
      by_cases c3 : x8_1 < (l0.length : Int)
      · rw [if_pos c3] at H
        have c3b0 : decide (x8_1 < (l0.length : Int)) = true := decide_eq_true c3
        clear c3
        by_cases c4 : 0 ≤ x8_1
        · rw [if_pos c4] at H
          have c4b0 : decide (0 ≤ x8_1) = true := decide_eq_true c4
          clear c4
          by_cases c5 : x8_1 < (l0.length : Int)
          · rw [if_pos c5] at H
            have c5b0 : decide (x8_1 < (l0.length : Int)) = true := decide_eq_true c5
            clear c5
            by_cases c6 : a1.toList = (rdOf ByteArray.empty l0 x8_1).toList
            · rw [if_pos c6] at H
              have c6b0 : (a1.toList == (rdOf ByteArray.empty l0 x8_1).toList) = true := beq_iff_eq.mpr c6
              have c6b1 : (a1.toList != (rdOf ByteArray.empty l0 x8_1).toList) = false := bne_eq_false_iff_eq.mpr c6
              clear c6
              obtain rfl := Option.some.inj H
              have p259 : 0 ≤ (x8_1 : Int) := of_decide_eq_true (by first | (with_reducible assumption) | assumption)
              have q259 : x8_1 < (l0.length : Int) := of_decide_eq_true (by first | (with_reducible assumption) | assumption)
              obtain ⟨ad259, e259, hx259_0⟩ := Kd.at_string HR0.out x8_1 p259 q259
              cases e259
              replace p259 := eq_true p259
              replace q259 := eq_true q259
              go_wp2
              go_ret
              exact ⟨by first | rfl | (simp; done) | (simp [*]; done), by repeat (first | exact Drawn0.refl _ | apply Drawn0.step)⟩
            · rw [if_neg c6] at H
              have c6b0 : (a1.toList == (rdOf ByteArray.empty l0 x8_1).toList) = false := beq_eq_false_iff_ne.mpr c6
              have c6b1 : (a1.toList != (rdOf ByteArray.empty l0 x8_1).toList) = true := bne_iff_ne.mpr c6
              have H' := Aside0.mk H
              clear H
              have p259 : 0 ≤ (x8_1 : Int) := of_decide_eq_true (by first | (with_reducible assumption) | assumption)
              have q259 : x8_1 < (l0.length : Int) := of_decide_eq_true (by first | (with_reducible assumption) | assumption)
              obtain ⟨ad259, e259, hx259_0⟩ := Kd.at_string HR0.out x8_1 p259 q259
              cases e259
              replace p259 := eq_true p259
              replace q259 := eq_true q259
              go_wp2
              go_roundg k1
              case measure => have := HK1.out; omega
              case rel => exact ⟨(wrap64 (x8_1 + 1)), (by first | rfl | (simp; done) | (simp [*]; done)), H', ⟨by have := HK1.out; omega⟩, by repeat (first | exact Drawn0.refl _ | apply Drawn0.step)⟩
          · rw [if_neg c5] at H
            exact absurd H (by simp)
        · rw [if_neg c4] at H
          exact absurd H (by simp)
      · rw [if_neg c3] at H
        have c3b0 : decide (x8_1 < (l0.length : Int)) = false := decide_eq_false c3
        clear c3
        obtain rfl := Option.some.inj H
        go_wp2
        go_ret
        exact ⟨by first | rfl | (simp; done) | (simp [*]; done), by repeat (first | exact Drawn0.refl _ | apply Drawn0.step)⟩

/-! ### slices_Contains_string_string: function 54 -/
def slices_Contains_string_string.f (k : Nat) (l0 : List ByteArray) (a1 : ByteArray) : Option (Bool) := (slices_Index_string_string.f k l0 a1).bind fun t260 => (some (decide (t260 ≥ 0)))
theorem slices_Contains_string_string.mono : ∀ a0 a1 k, LeO (slices_Contains_string_string.f k a0 a1) (slices_Contains_string_string.f (k + 1) a0 a1) := by
  intro a0 a1 k
  unfold slices_Contains_string_string.f
  repeat' first
      | (with_reducible exact slices_Index_string_string.mono _ _ _)
      | (with_reducible exact LeO.refl _)
      | (with_reducible exact LeO.none _)
      | (with_reducible refine LeO.ite ?_ ?_)
      | (with_reducible refine LeO.bind ?_ (fun _ => ?_))
      | exact slices_Index_string_string.mono _ _ _
      | exact LeO.none _
      | refine LeO.ite ?_ ?_
      | refine LeO.bind ?_ (fun _ => ?_)
set_option maxHeartbeats 64000000 in
set_option maxRecDepth 100000 in
theorem slices_Contains_string_string.calls (k : Nat) (A0 : Option Addr) (c0 : Nat) (l0 : List ByteArray) (a1 : ByteArray) (r : Bool) (w : World) (hr0 : Kd.C Kd.string w A0 l0.length l0) (hc0 : l0.length ≤ c0) (h : slices_Contains_string_string.f k l0 a1 = some r) :
    Calls Try.prog 54 #[.slice A0 l0.length c0, .string a1] w fun e w' => e = .returned (.bool r) ∧ Drawn0 w w' := by
  have HR0 := Aside0.mk hr0
  have HC0 := Aside0.mk hc0
  clear hr0 hc0
  have H : ((slices_Index_string_string.f k l0 a1).bind fun t260 => (some (decide (t260 ≥ 0)))) = some r := h
  clear h
  replace H := Option.bind_eq_some_iff.mp H
  obtain ⟨t260, A30, H⟩ := H
  replace H : (some (decide (t260 ≥ 0))) = some r := H
  have A3 := Aside0.mk A30
  clear A30
  obtain rfl := Option.some.inj H
  go_enter Try.func54, Try.ntmps54
  go_wp2_with (first | ((with_reducible refine gate_callee (f := 65) rfl ?_); refine goesL_ (some 7) rfl rfl Try.func65 (by kernel_rfl) rfl #[.slice A0 l0.length c0, .string a1] rfl (by (try simp only [List.map_toArray, List.map_cons, List.map_nil]); first | done | rfl | (simp only [List.length_drop, List.length_take]; rfl)) ?_; (with_reducible refine (slices_Index_string_string.calls k _ _ l0 a1 t260 _ ?side1 ?side2 A3.out).mono ?_); (case side1 => repeat (first | exact HR0.out | (with_reducible refine Kd.C_alloc ?_ _) | (with_reducible refine Kd.C_drewN ?_ _) | (with_reducible refine Kd.C_drew ?_))); (case side2 => exact HC0.out); rintro e w' ⟨rfl, ⟨nd, rfl⟩⟩; refine ⟨_, rfl, ?_⟩))
  go_ret
  exact ⟨by first | rfl | (simp; done) | (simp [*]; done), by repeat (first | exact Drawn0.refl _ | apply Drawn0.step)⟩

/-! ### impl_Ledger_card_1: function 67 -/
def impl_Ledger_card_1.f (a0_0 : ByteArray) (a0_1 : Int) (a0_2 : Int) (a0_3 : Int) (a1_0 : ByteArray) : Option (Bool) := some (a0_0.toList == a1_0.toList)
set_option maxHeartbeats 64000000 in
set_option maxRecDepth 100000 in
theorem impl_Ledger_card_1.calls (a0_0 : ByteArray) (a0_1 : Int) (a0_2 : Int) (a0_3 : Int) (gc1_0 : Nat) (a1_0 : ByteArray) (r : Bool) (w : World) (hk1_0 : w.heap[gc1_0]? = some (.cells #[.string a1_0] 9 (0, 0))) (h : impl_Ledger_card_1.f a0_0 a0_1 a0_2 a0_3 a1_0 = some r) :
    Calls Try.prog 67 #[.agg #[.string a0_0, .int .i64 a0_1, .int .i64 a0_2, .int .i64 a0_3], .pointer (some ⟨gc1_0, 0, none⟩)] w fun e w' => e = .returned (.bool r) ∧ Below w.heap.size w w' := by
  have hu39 := Try.underlying39
  have BK1 := Aside0.mk hk1_0
  clear hk1_0
  have HB := Aside0.mk (Below.refl w.heap.size w)
  have H : (some (a0_0.toList == a1_0.toList)) = some r := h
  clear h
  obtain rfl := Option.some.inj H
  go_enter Try.func67, Try.ntmps67
  go_wp2_with (first | ((with_reducible refine gate_dst (N := 2) rfl ?_); refine box_event ?hg (N := 2) ?hd (cs := #[.string a0_0, .int .i64 a0_1, .int .i64 a0_2, .int .i64 a0_3]) (t := 39) ?hr ?_; (case hd => rfl); (case hg => rfl); (case hr => first | (go_simp; done) | (go_simp; rfl)); intro gb261 hg w3 hbox hb; have n0_ := Aside0.mk (blk_below (g := gc1_0) (o := .cells #[.string a1_0] 9 (0, 0)) (by (with_reducible repeat (first | refine blk_drewN ?_ _ | refine blk_drew ?_ | refine blk_alloc ?_ _)); exact BK1.out) hb); have n1_ := Aside0.mk (below_step (by repeat (first | (with_reducible first | exact HB.out | apply below_alloc | apply pw_below_drewN | apply below_drew1 | refine below_set ?_ GE1.out) | exact HB.out)) hb); have n2_ := Aside0.mk (hbox); have n3_ := Aside0.mk ((by rw [hg]; exact (below_size (by repeat (first | (with_reducible first | exact HB.out | apply below_alloc | apply pw_below_drewN | apply below_drew1 | refine below_set ?_ GE1.out) | exact HB.out))) : w.heap.size ≤ gb261)); have n4_ := Aside0.mk ((by rw [hg]; exact (below_size (by repeat (first | (with_reducible first | exact HB.out | apply below_alloc | apply pw_below_drewN | apply below_drew1 | refine below_set ?_ GE1.out) | exact HB.out))) : w.heap.size ≤ gb261)); have n5_ := Aside0.mk ((by rw [hg]; exact Nat.ne_of_lt (blk_lt (g := gc1_0) (o := .cells #[.string a1_0] 9 (0, 0)) (by (with_reducible repeat (first | refine blk_drewN ?_ _ | refine blk_drew ?_ | refine blk_alloc ?_ _)); exact BK1.out)) : gc1_0 ≠ gb261)); have n6_ := Aside0.mk ((by rw [hg]; exact Nat.ne_of_gt (blk_lt (g := gc1_0) (o := .cells #[.string a1_0] 9 (0, 0)) (by (with_reducible repeat (first | refine blk_drewN ?_ _ | refine blk_drew ?_ | refine blk_alloc ?_ _)); exact BK1.out)) : gb261 ≠ gc1_0)); clear BK1; clear HB; have BK1 := n0_; have HB := n1_; have BK261 := n2_; have GW261 := n3_; have GE261 := n4_; have NB1_261 := n5_; have NB261_1 := n6_; clear n0_ n1_ n2_ n3_ n4_ n5_ n6_; clear hb hbox hg; have hnb4 := NB261_1.out; have hnc4 := NB1_261.out; have hcz5_0 : w3.cell? ⟨gb261, 0, none⟩ = some (.string a0_0) := (blk_cell BK261.out 0).trans rfl; have hcz5_1 : w3.cell? ⟨gb261, 1, none⟩ = some (.int .i64 a0_1) := (blk_cell BK261.out 1).trans rfl; have hcz5_2 : w3.cell? ⟨gb261, 2, none⟩ = some (.int .i64 a0_2) := (blk_cell BK261.out 2).trans rfl; have hcz5_3 : w3.cell? ⟨gb261, 3, none⟩ = some (.int .i64 a0_3) := (blk_cell BK261.out 3).trans rfl; have hfz5_0 := blk_frozen BK261.out 0; have hfz5_1 := blk_frozen BK261.out 1; have hfz5_2 := blk_frozen BK261.out 2; have hfz5_3 := blk_frozen BK261.out 3; have hcz6_0 : w3.cell? ⟨gc1_0, 0, none⟩ = some (.string a1_0) := (blk_cell BK1.out 0).trans rfl; have hfz6_0 := blk_frozen BK1.out 0))
  go_ret
  exact ⟨by first | rfl | (simp [errW_none, errW_some] <;> rfl) | (simp [*, errW_none, errW_some] <;> rfl), by repeat (first | (with_reducible first | exact HB.out | apply below_alloc | apply pw_below_drewN | apply below_drew1 | refine below_set ?_ GE1.out | refine below_set ?_ GE261.out) | exact HB.out)⟩

end Go.Proofs.Ytoibmbkmpadmnaa.V
