/- Payments: each payment's numbers are those of the acts that had no code. -/
import Derived.Test.YthljgekhknfllaaZPayJ
namespace Go.Proofs.Ythljgekhknfllaa.ZPayxJ
open Go.RowKit Go.Proofs.Ythljgekhknfllaa.J Go.Proofs.Ythljgekhknfllaa.Lib Go.Proofs.Ythljgekhknfllaa.ZNamJ Go.Proofs.Ythljgekhknfllaa.ZPayJ Go.Proofs.YthljgekhknfllaaW.PrintWords Go.Proofs.YthljgekhknfllaaW.PrintLast Go.Proofs.YthljgekhknfllaaW.PrintMore

def one (kd : Int) (id : ByteArray) (x : Ac) (c : Int) : Int := if c = 0 ∧ x.f1.toList = id.toList ∧ x.f0 = kd then x.f2 else 0
def tot (kd : Int) (id : ByteArray) : List Ac → List Int → Int
  | x :: A, c :: C => one kd id x c + tot kd id A C
  | _, _ => 0
theorem tot_snoc (kd : Int) (id : ByteArray) (x : Ac) (c : Int) : ∀ (A : List Ac) (C : List Int), A.length = C.length → tot kd id (A ++ [x]) (C ++ [c]) = tot kd id A C + one kd id x c
  | [], [], _ => by simp [tot]
  | [], _ :: _, h => by simp at h
  | _ :: _, [], h => by simp at h
  | y :: A, d :: C, h => by
    have := tot_snoc kd id x c A C (by simpa using h)
    show one kd id y d + tot kd id (A ++ [x]) (C ++ [c]) = one kd id y d + tot kd id A C + one kd id x c
    omega
def Fine (A : List Ac) (C : List Int) (p : P) : Prop :=
  p.f1 = tot 1 p.f0 A C ∧ p.f2 = tot 2 p.f0 A C ∧ p.f3 = tot 4 p.f0 A C ∧ 0 ≤ p.f3 ∧ p.f3 ≤ p.f2 ∧ p.f2 ≤ p.f1 ∧ p.f1 ≤ 1000000000 ∧ (p.f4 = true → p.f2 ≠ p.f1)
def J (A : List Ac) (s : ZPayJ.St) : Prop :=
  A.length = s.1.length ∧ (∀ (i : Nat) p, s.2[i]? = some p → Fine A s.1 p) ∧ (∀ (i j : Nat) p q, s.2[i]? = some p → s.2[j]? = some q → p.f0.toList = q.f0.toList → i = j) ∧
    (∀ id : ByteArray, (∀ p ∈ s.2, p.f0.toList ≠ id.toList) → tot 1 id A s.1 = 0 ∧ tot 2 id A s.1 = 0 ∧ tot 4 id A s.1 = 0) ∧
    (∀ (j : Nat) x c, A[j]? = some x → s.1[j]? = some c → c = 0 → x.f0 ≠ 3 → 0 ≤ x.f2)
theorem fidx_neg {α : Type} (q : α → Bool) : ∀ (l : List α) (i : Int), 0 ≤ i → fidx q l i < 0 → ∀ x ∈ l, q x = false
  | [], _, _, _, x, hx => by cases hx
  | y :: l, i, h0, h, x, hx => by
    unfold fidx at h
    by_cases hq : q y = true
    · rw [if_pos hq] at h; omega
    · rw [if_neg hq] at h
      rcases List.mem_cons.1 hx with h1 | h1
      · rw [h1]; exact Bool.eq_false_iff.2 hq
      · exact fidx_neg q l (i + 1) (by omega) h x h1
theorem fidx_pos {α : Type} (q : α → Bool) : ∀ (l : List α) (i : Int), 0 ≤ i → 0 ≤ fidx q l i → ∃ (k : Nat) (x : α), fidx q l i = i + (k : Int) ∧ l[k]? = some x ∧ q x = true
  | [], _, _, h => by unfold fidx at h; omega
  | y :: l, i, h0, h => by
    unfold fidx at h ⊢
    by_cases hq : q y = true
    · rw [if_pos hq]; exact ⟨0, y, by omega, rfl, hq⟩
    · rw [if_neg hq] at h ⊢
      obtain ⟨k, x, h1, h2, h3⟩ := fidx_pos q l (i + 1) (by omega) h
      exact ⟨k + 1, x, by omega, h2, h3⟩
/-- What an act comes to. -/
theorem act_cases (l : List P) (x : Ac) :
    ((actB l x).1 = l ∧ (actB l x).2 ≠ 0) ∨
    (x.f0 = 1 ∧ (∀ p ∈ l, p.f0.toList ≠ x.f1.toList) ∧ 1 ≤ x.f2 ∧ x.f2 ≤ 1000000000 ∧ actB l x = (l ++ [⟨x.f1, x.f2, 0, 0, true⟩], 0)) ∨
    ∃ (k : Nat) (p : P), l[k]? = some p ∧ p.f0.toList = x.f1.toList ∧
      ((x.f0 = 3 ∧ actB l x = (l.set k ⟨p.f0, p.f1, p.f2, p.f3, false⟩, 0)) ∨
       (x.f0 = 4 ∧ 1 ≤ x.f2 ∧ x.f2 ≤ wrap64 (p.f2 - p.f3) ∧ actB l x = (l.set k ⟨p.f0, p.f1, p.f2, wrap64 (p.f3 + x.f2), p.f4⟩, 0)) ∨
       (x.f0 = 2 ∧ 1 ≤ x.f2 ∧ x.f2 ≤ wrap64 (p.f1 - p.f2) ∧ actB l x = (l.set k ⟨p.f0, p.f1, wrap64 (p.f2 + x.f2), p.f3, decide (wrap64 (p.f2 + x.f2) < p.f1)⟩, 0))) := by
  by_cases h1 : 1 ≤ x.f0 ∧ x.f0 ≤ 4
  · by_cases k1 : x.f0 = 1
    · have e : actB l x = if nameB x.f1 = true then (if findP l x.f1 ≥ 0 then (l, 7) else if 1 ≤ x.f2 ∧ x.f2 ≤ 1000000000 then (if (l.length : Int) = 60 then (l, 14) else (l ++ [⟨x.f1, x.f2, 0, 0, true⟩], 0)) else (l, 5)) else (l, 6) := by
        unfold actB; rw [if_pos h1, if_pos k1]
      rw [e]
      by_cases n1 : nameB x.f1 = true
      · rw [if_pos n1]
        by_cases f1 : findP l x.f1 ≥ 0
        · rw [if_pos f1]; exact .inl ⟨rfl, by simp⟩
        · rw [if_neg f1]
          by_cases a1 : 1 ≤ x.f2 ∧ x.f2 ≤ 1000000000
          · rw [if_pos a1]
            by_cases l1 : (l.length : Int) = 60
            · rw [if_pos l1]; exact .inl ⟨rfl, by simp⟩
            · rw [if_neg l1]
              refine .inr (.inl ⟨k1, fun p hp => ?_, a1.1, a1.2, rfl⟩)
              have := fidx_neg _ l 0 (by omega) (show findP l x.f1 < 0 by omega) p hp
              unfold eqS at this
              exact of_decide_eq_false this
          · rw [if_neg a1]; exact .inl ⟨rfl, by simp⟩
      · rw [if_neg n1]; exact .inl ⟨rfl, by simp⟩
    · by_cases f1 : findP l x.f1 < 0
      · have e : actB l x = (l, 8) := by unfold actB; rw [if_pos h1, if_neg k1, if_pos f1]
        rw [e]; exact .inl ⟨rfl, by simp⟩
      · have e : actB l x = doB l (findP l x.f1) x := by unfold actB; rw [if_pos h1, if_neg k1, if_neg f1]
        obtain ⟨k, p, g1, g2, g3⟩ := fidx_pos (fun p : P => eqS p.f0 x.f1) l 0 (by omega) (show 0 ≤ findP l x.f1 by omega)
        have gk : findP l x.f1 = (k : Int) := by unfold findP; omega
        have hrd : rd_T31 l (k : Int) = p := getD_some g2
        have hid : p.f0.toList = x.f1.toList := of_decide_eq_true g3
        rw [e, gk]
        unfold doB
        rw [hrd, Int.toNat_natCast]
        by_cases o1 : (decide (x.f0 = 4) || p.f4) = false
        · rw [if_pos o1]; exact .inl ⟨rfl, by simp⟩
        · rw [if_neg o1]
          by_cases k3 : x.f0 = 3
          · rw [if_pos k3]; exact .inr (.inr ⟨k, p, g2, hid, .inl ⟨k3, rfl⟩⟩)
          · rw [if_neg k3]
            by_cases a1 : x.f2 < 1
            · rw [if_pos a1]; exact .inl ⟨rfl, by simp⟩
            · rw [if_neg a1]
              by_cases k4 : x.f0 = 4
              · rw [if_pos k4]
                by_cases c1 : x.f2 > wrap64 (p.f2 - p.f3)
                · rw [if_pos c1]; exact .inl ⟨rfl, by simp⟩
                · rw [if_neg c1]; exact .inr (.inr ⟨k, p, g2, hid, .inr (.inl ⟨k4, by omega, by omega, rfl⟩)⟩)
              · rw [if_neg k4]
                by_cases c1 : x.f2 > wrap64 (p.f1 - p.f2)
                · rw [if_pos c1]; exact .inl ⟨rfl, by simp⟩
                · rw [if_neg c1]; exact .inr (.inr ⟨k, p, g2, hid, .inr (.inr ⟨by omega, by omega, by omega, rfl⟩)⟩)
  · have e : actB l x = (l, 13) := by unfold actB; rw [if_neg h1]
    rw [e]; exact .inl ⟨rfl, by simp⟩
theorem one_ne {kd : Int} {id : ByteArray} {x : Ac} {c : Int} (h : c = 0 → x.f1.toList = id.toList → x.f0 ≠ kd) : one kd id x c = 0 := by
  unfold one
  exact if_neg (fun hc => h hc.1 hc.2.1 hc.2.2)
theorem one_eq {kd : Int} {id : ByteArray} {x : Ac} (h1 : x.f1.toList = id.toList) (h2 : x.f0 = kd) : one kd id x 0 = x.f2 := by
  unfold one
  exact if_pos ⟨rfl, h1, h2⟩
theorem tot_id {kd : Int} {a b : ByteArray} (h : a.toList = b.toList) : ∀ (A : List Ac) (C : List Int), tot kd a A C = tot kd b A C
  | x :: A, c :: C => by
    show one kd a x c + tot kd a A C = one kd b x c + tot kd b A C
    rw [tot_id h A C]
    unfold one
    rw [h]
  | [], _ => by simp [tot]
  | _ :: _, [] => by simp [tot]
theorem snoc_get {α : Type} {A : List α} {x y : α} {j : Nat} (h : (A ++ [x])[j]? = some y) : A[j]? = some y ∨ (j = A.length ∧ y = x) := by
  rcases Nat.lt_trichotomy j A.length with h1 | h1 | h1
  · left; rw [List.getElem?_append_left h1] at h; exact h
  · right
    subst h1
    simp at h
    exact ⟨rfl, h.symm⟩
  · rw [List.getElem?_eq_none (by simp; omega)] at h; cases h
theorem j_nxt {A : List Ac} {s : ZPayJ.St} {x : Ac} (h : J A s) : J (A ++ [x]) (nxt x s) := by
  obtain ⟨C, L⟩ := s
  obtain ⟨h1, h2, h3, h4, h5⟩ := h
  dsimp only at h1 h2 h3 h4 h5
  have hT : ∀ kd id c, tot kd id (A ++ [x]) (C ++ [c]) = tot kd id A C + one kd id x c := fun kd id c => tot_snoc kd id x c A C h1
  have hnn : ∀ (c : Int), (c = 0 → x.f0 ≠ 3 → 0 ≤ x.f2) → ∀ (j : Nat) y d, (A ++ [x])[j]? = some y → (C ++ [c])[j]? = some d → d = 0 → y.f0 ≠ 3 → 0 ≤ y.f2 := by
    intro c hc j y d hy hd h0 hk
    rcases snoc_get hy with g | ⟨g1, g2⟩
    · rcases snoc_get hd with g' | ⟨g3, _⟩
      · exact h5 j y d g g' h0 hk
      · have := (List.getElem?_eq_some_iff.1 g).1; omega
    · rcases snoc_get hd with g' | ⟨_, g4⟩
      · have := (List.getElem?_eq_some_iff.1 g').1; omega
      · subst g2; subst g4; exact hc h0 hk
  -- the same list, and all that is told of it the same
  have keep : ∀ (c : Int), (∀ kd id, kd ≠ 3 → one kd id x c = 0) → (∀ (i : Nat) p, L[i]? = some p → Fine (A ++ [x]) (C ++ [c]) p) ∧ (∀ id : ByteArray, (∀ p ∈ L, p.f0.toList ≠ id.toList) → tot 1 id (A ++ [x]) (C ++ [c]) = 0 ∧ tot 2 id (A ++ [x]) (C ++ [c]) = 0 ∧ tot 4 id (A ++ [x]) (C ++ [c]) = 0) := by
    intro c hz
    refine ⟨fun i p hp => ?_, fun id hid => ?_⟩
    · obtain ⟨q1, q2, q3, q4⟩ := h2 i p hp
      refine ⟨?_, ?_, ?_, q4⟩
      · rw [hT, hz 1 _ (by decide), Int.add_zero]; exact q1
      · rw [hT, hz 2 _ (by decide), Int.add_zero]; exact q2
      · rw [hT, hz 4 _ (by decide), Int.add_zero]; exact q3
    · obtain ⟨q1, q2, q3⟩ := h4 id hid
      rw [hT, hT, hT, hz 1 _ (by decide), hz 2 _ (by decide), hz 4 _ (by decide)]
      omega
  have hlen : ∀ c : Int, (A ++ [x]).length = (C ++ [c]).length := fun c => by simp [h1]
  rcases act_cases L x with ⟨e1, e2⟩ | ⟨k1, hid, a1, a2, e⟩ | ⟨k, p, hp, hid, hc⟩
  · have hn : nxt x (C, L) = (C ++ [(actB L x).2], L) := by unfold nxt; rw [e1]
    rw [hn]
    obtain ⟨g1, g2⟩ := keep (actB L x).2 (fun kd id _ => one_ne (fun h => absurd h e2))
    exact ⟨hlen _, g1, h3, g2, hnn _ (fun h => absurd h e2)⟩
  · have hn : nxt x (C, L) = (C ++ [0], L ++ [⟨x.f1, x.f2, 0, 0, true⟩]) := by unfold nxt; rw [e]
    rw [hn]
    refine ⟨hlen _, fun i q hq => ?_, fun i j q r hq hr hqr => ?_, fun id hd => ?_, hnn 0 (fun _ _ => by omega)⟩
    · rcases snoc_get hq with g | ⟨_, g⟩
      · obtain ⟨q1, q2, q3, q4⟩ := h2 i q g
        have hne := hid q (List.mem_of_getElem? g)
        have hz : ∀ kd, one kd q.f0 x 0 = 0 := fun kd => one_ne (fun _ h => absurd h.symm hne)
        refine ⟨?_, ?_, ?_, q4⟩
        · rw [hT, hz, Int.add_zero]; exact q1
        · rw [hT, hz, Int.add_zero]; exact q2
        · rw [hT, hz, Int.add_zero]; exact q3
      · subst g
        obtain ⟨z1, z2, z3⟩ := h4 x.f1 hid
        refine ⟨?_, ?_, ?_, ?_, ?_, ?_, ?_, ?_⟩
        · show x.f2 = tot 1 x.f1 _ _
          rw [hT, z1, one_eq rfl k1]; omega
        · show 0 = tot 2 x.f1 _ _
          rw [hT, z2, one_ne (fun _ _ => by omega)]; rfl
        · show 0 = tot 4 x.f1 _ _
          rw [hT, z3, one_ne (fun _ _ => by omega)]; rfl
        · show (0 : Int) ≤ 0; omega
        · show (0 : Int) ≤ 0; omega
        · show 0 ≤ x.f2; omega
        · show x.f2 ≤ 1000000000; exact a2
        · intro _; show (0 : Int) ≠ x.f2; omega
    · rcases snoc_get hq with g | ⟨g1, g⟩
      · rcases snoc_get hr with g' | ⟨_, g'⟩
        · exact h3 i j q r g g' hqr
        · subst g'; exact absurd hqr (hid q (List.mem_of_getElem? g))
      · rcases snoc_get hr with g' | ⟨g2, g'⟩
        · subst g; exact absurd hqr.symm (hid r (List.mem_of_getElem? g'))
        · omega
    · have hx : x.f1.toList ≠ id.toList := hd ⟨x.f1, x.f2, 0, 0, true⟩ (List.mem_append_right _ (List.mem_singleton.2 rfl))
      obtain ⟨z1, z2, z3⟩ := h4 id (fun p hp => hd p (List.mem_append_left _ hp))
      have hz : ∀ kd, one kd id x 0 = 0 := fun kd => one_ne (fun _ h => absurd h hx)
      rw [hT, hT, hT, hz, hz, hz]
      omega
  · have hkl := (List.getElem?_eq_some_iff.1 hp).1
    have hset : ∀ (p' : P) (i : Nat) (q : P), (L.set k p')[i]? = some q → (i = k ∧ q = p') ∨ (i ≠ k ∧ L[i]? = some q) := by
      intro p' i q hq
      by_cases hik : i = k
      · subst hik
        rw [List.getElem?_set_self hkl] at hq
        exact .inl ⟨rfl, (Option.some.inj hq).symm⟩
      · rw [List.getElem?_set_ne (fun h => hik h.symm)] at hq
        exact .inr ⟨hik, hq⟩
    have dist : ∀ p' : P, p'.f0 = p.f0 → ∀ (i j : Nat) q r, (L.set k p')[i]? = some q → (L.set k p')[j]? = some r → q.f0.toList = r.f0.toList → i = j := by
      intro p' hp' i j q r hq hr hqr
      rcases hset p' i q hq with ⟨g1, g2⟩ | ⟨g1, g2⟩
      · rcases hset p' j r hr with ⟨g3, g4⟩ | ⟨g3, g4⟩
        · omega
        · subst g2; rw [hp'] at hqr
          have := h3 k j p r hp g4 hqr; omega
      · rcases hset p' j r hr with ⟨g3, g4⟩ | ⟨g3, g4⟩
        · subst g4; rw [hp'] at hqr
          have := h3 i k q p g2 hp hqr; omega
        · exact h3 i j q r g2 g4 hqr
    have none_ : ∀ p' : P, p'.f0 = p.f0 → ∀ id : ByteArray, (∀ q ∈ L.set k p', q.f0.toList ≠ id.toList) → tot 1 id (A ++ [x]) (C ++ [0]) = 0 ∧ tot 2 id (A ++ [x]) (C ++ [0]) = 0 ∧ tot 4 id (A ++ [x]) (C ++ [0]) = 0 := by
      intro p' hp' id hd
      have hpid : p.f0.toList ≠ id.toList := by
        rw [← hp']; exact hd p' (List.mem_of_getElem? (List.getElem?_set_self hkl))
      have hd' : ∀ q ∈ L, q.f0.toList ≠ id.toList := by
        intro q hq
        obtain ⟨i, hi⟩ := List.mem_iff_getElem?.1 hq
        by_cases hik : i = k
        · subst hik; rw [hp] at hi; rw [← Option.some.inj hi]; exact hpid
        · exact hd q (List.mem_of_getElem? (i := i) (by rw [List.getElem?_set_ne (fun h => hik h.symm)]; exact hi))
      obtain ⟨z1, z2, z3⟩ := h4 id hd'
      have hz : ∀ kd, one kd id x 0 = 0 := fun kd => one_ne (fun _ h => absurd (hid.trans h) hpid)
      rw [hT, hT, hT, hz, hz, hz]
      omega
    have other : ∀ (i : Nat) q, i ≠ k → L[i]? = some q → Fine (A ++ [x]) (C ++ [0]) q := by
      intro i q hik hq
      obtain ⟨q1, q2, q3, q4⟩ := h2 i q hq
      have hne : x.f1.toList ≠ q.f0.toList := fun h => hik (h3 i k q p hq hp (by rw [hid, h]))
      have hz : ∀ kd, one kd q.f0 x 0 = 0 := fun kd => one_ne (fun _ h => absurd h hne)
      refine ⟨?_, ?_, ?_, q4⟩
      · rw [hT, hz, Int.add_zero]; exact q1
      · rw [hT, hz, Int.add_zero]; exact q2
      · rw [hT, hz, Int.add_zero]; exact q3
    obtain ⟨p1, p2, p3, p4, p5, p6, p7, p8⟩ := h2 k p hp
    rcases hc with ⟨k3, e⟩ | ⟨k4, a1, a2, e⟩ | ⟨k2, a1, a2, e⟩
    · have hn : nxt x (C, L) = (C ++ [0], L.set k ⟨p.f0, p.f1, p.f2, p.f3, false⟩) := by unfold nxt; rw [e]
      rw [hn]
      refine ⟨hlen _, fun i q hq => ?_, dist _ rfl, none_ _ rfl, hnn 0 (fun _ h => absurd k3 h)⟩
      rcases hset _ i q hq with ⟨g1, g2⟩ | ⟨g1, g2⟩
      · subst g2
        have hz : ∀ kd, kd ≠ 3 → one kd p.f0 x 0 = 0 := fun kd h => one_ne (fun _ _ => by omega)
        refine ⟨?_, ?_, ?_, p4, p5, p6, p7, fun h => by cases h⟩
        · show p.f1 = tot 1 p.f0 _ _; rw [hT, hz 1 (by decide), Int.add_zero]; exact p1
        · show p.f2 = tot 2 p.f0 _ _; rw [hT, hz 2 (by decide), Int.add_zero]; exact p2
        · show p.f3 = tot 4 p.f0 _ _; rw [hT, hz 4 (by decide), Int.add_zero]; exact p3
      · exact other i q g1 g2
    · rw [w64 (x := p.f2 - p.f3) (by omega) (by omega)] at a2
      have hw : wrap64 (p.f3 + x.f2) = p.f3 + x.f2 := w64 (by omega) (by omega)
      have hn : nxt x (C, L) = (C ++ [0], L.set k ⟨p.f0, p.f1, p.f2, p.f3 + x.f2, p.f4⟩) := by unfold nxt; rw [e, hw]
      rw [hn]
      refine ⟨hlen _, fun i q hq => ?_, dist _ rfl, none_ _ rfl, hnn 0 (fun _ _ => by omega)⟩
      rcases hset _ i q hq with ⟨g1, g2⟩ | ⟨g1, g2⟩
      · subst g2
        refine ⟨?_, ?_, ?_, ?_, ?_, p6, p7, p8⟩
        · show p.f1 = tot 1 p.f0 _ _; rw [hT, one_ne (fun _ _ => by omega), Int.add_zero]; exact p1
        · show p.f2 = tot 2 p.f0 _ _; rw [hT, one_ne (fun _ _ => by omega), Int.add_zero]; exact p2
        · show p.f3 + x.f2 = tot 4 p.f0 _ _; rw [hT, one_eq hid.symm k4, ← p3]
        · show 0 ≤ p.f3 + x.f2; omega
        · show p.f3 + x.f2 ≤ p.f2; omega
      · exact other i q g1 g2
    · rw [w64 (x := p.f1 - p.f2) (by omega) (by omega)] at a2
      have hw : wrap64 (p.f2 + x.f2) = p.f2 + x.f2 := w64 (by omega) (by omega)
      have hn : nxt x (C, L) = (C ++ [0], L.set k ⟨p.f0, p.f1, p.f2 + x.f2, p.f3, decide (p.f2 + x.f2 < p.f1)⟩) := by unfold nxt; rw [e, hw]
      rw [hn]
      refine ⟨hlen _, fun i q hq => ?_, dist _ rfl, none_ _ rfl, hnn 0 (fun _ _ => by omega)⟩
      rcases hset _ i q hq with ⟨g1, g2⟩ | ⟨g1, g2⟩
      · subst g2
        refine ⟨?_, ?_, ?_, p4, ?_, ?_, p7, ?_⟩
        · show p.f1 = tot 1 p.f0 _ _; rw [hT, one_ne (fun _ _ => by omega), Int.add_zero]; exact p1
        · show p.f2 + x.f2 = tot 2 p.f0 _ _; rw [hT, one_eq hid.symm k2, ← p2]
        · show p.f3 = tot 4 p.f0 _ _; rw [hT, one_ne (fun _ _ => by omega), Int.add_zero]; exact p3
        · show p.f3 ≤ p.f2 + x.f2; omega
        · show p.f2 + x.f2 ≤ p.f1; omega
        · intro h
          have := of_decide_eq_true h
          show p.f2 + x.f2 ≠ p.f1; omega
      · exact other i q g1 g2
theorem run_j : ∀ (l : List Ac) (i : Int) (A : List Ac) (s : ZPayJ.St), J A s → J (A ++ l) ((run ZPayJ.step fin l i s).1, (run ZPayJ.step fin l i s).2.1)
  | [], _, A, s, h => by rw [List.append_nil]; exact h
  | x :: l, i, A, s, h => by
    have := run_j l (i + 1) (A ++ [x]) (nxt x s) (j_nxt h)
    rw [List.append_assoc] at this
    exact this
theorem j_zero : J [] ([], []) := ⟨rfl, fun i p h => by simp at h, fun i j p q h => by simp at h, fun _ _ => ⟨rfl, rfl, rfl⟩, fun j x c h => by simp at h⟩
end Go.Proofs.Ythljgekhknfllaa.ZPayxJ
