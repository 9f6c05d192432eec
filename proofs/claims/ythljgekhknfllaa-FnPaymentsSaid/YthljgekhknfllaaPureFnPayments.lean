/- FnPayments: of acts that are drawn, each payment's numbers by the program are those of the acts that had no code, nothing is captured that was not authorised, nothing refunded that was not captured, and codes and payments are the reference's; on condition that the code is a list of bytes. -/
import Derived.Test.YthljgekhknfllaaZPayxJ
import Derived.Test.YthljgekhknfllaaZActsJ
namespace Go.Proofs.Ythljgekhknfllaa.Pure
open Go.RowKit Go.Proofs.Ythljgekhknfllaa.J Go.Proofs.Ythljgekhknfllaa.Lib Go.Proofs.Ythljgekhknfllaa.ZDrawJ Go.Proofs.Ythljgekhknfllaa.ZActsJ Go.Proofs.Ythljgekhknfllaa.ZPayJ Go.Proofs.Ythljgekhknfllaa.ZPayxJ Go.Proofs.YthljgekhknfllaaW.PrintWords Go.Proofs.YthljgekhknfllaaW.PrintLast Go.Proofs.YthljgekhknfllaaW.PrintMore

theorem byt_of {l : List Int} (h : ∀ y0 ∈ l, (Lit.int .u8 y0).wf = true) : Byt l := by
  intro y hy
  have := h y hy
  unfold Lit.wf at this
  rw [Bool.and_eq_true] at this
  exact ⟨of_decide_eq_true this.1, of_decide_eq_true this.2⟩
theorem same_ints (l : List Int) (hl : l.length ≤ maxLen) : Ev (fun k => laws_sameInts.f k l l) true := by
  unfold laws_sameInts.f
  simp only [if_true]
  refine ev_eq (all_ev' l (fun _ => true) (fun k i => laws_sameInts.l0 k l l i) hl (fun k i x hx => ?_) (fun k => ?_)) (by simp)
  · have := some_lt hx
    simp only [laws_sameInts.l0]
    rw [if_pos (ilt this), if_pos (ige _), if_pos (ilt this)]
  · simp only [laws_sameInts.l0]
    rw [if_neg (by omega)]
def Nn (A : List Ac) (C : List Int) : Prop := ∀ (j : Nat) x c, A[j]? = some x → C[j]? = some c → c = 0 → x.f0 ≠ 3 → 0 ≤ x.f2
theorem one_nn {A : List Ac} {C : List Int} {x : Ac} {c : Int} {kd : Int} {id : ByteArray} (h : Nn (x :: A) (c :: C)) (hk : kd ≠ 3) : 0 ≤ one kd id x c := by
  unfold one
  split
  · rename_i hc
    exact h 0 x c rfl rfl hc.1 (by rw [hc.2.2]; exact hk)
  · omega
theorem tot_nn {kd : Int} {id : ByteArray} (hk : kd ≠ 3) : ∀ (A : List Ac) (C : List Int), Nn A C → 0 ≤ tot kd id A C
  | x :: A, c :: C, h => by
    have h1 := one_nn (kd := kd) (id := id) h hk
    have h2 := tot_nn (id := id) hk A C (fun j y d hy hd => h (j + 1) y d hy hd)
    show 0 ≤ one kd id x c + tot kd id A C
    omega
  | [], _, _ => by simp [tot]
  | _ :: _, [], _ => by simp [tot]
theorem inner {A : List Ac} {C : List Int} {L : List P} {p : P} {i : Int} (hA : A.length = C.length) (hA2 : A.length ≤ 100) (nn : Nn A C) (b1 : p.f1 ≤ 1000000000) (b2 : p.f2 ≤ 1000000000) (b3 : p.f3 ≤ 1000000000)
    (hend : Ev (fun k => laws_FnPayments.l1 k A C L L i (A.length : Int) p.f0 p.f1 p.f2 p.f3 p.f4 p.f0 p.f1 p.f2 p.f3 p.f4) true) :
    ∀ s1 s2 s4 : Int, 0 ≤ s1 → 0 ≤ s2 → 0 ≤ s4 → s1 + tot 1 p.f0 (A.drop 0) (C.drop 0) = p.f1 → s2 + tot 2 p.f0 (A.drop 0) (C.drop 0) = p.f2 → s4 + tot 4 p.f0 (A.drop 0) (C.drop 0) = p.f3 →
      Ev (fun k => laws_FnPayments.l1 k A C L L i ((0 : Nat) : Int) p.f0 p.f1 p.f2 p.f3 p.f4 p.f0 s1 s2 s4 p.f4) true := by
  refine down_list A (P := fun j => ∀ s1 s2 s4 : Int, 0 ≤ s1 → 0 ≤ s2 → 0 ≤ s4 → s1 + tot 1 p.f0 (A.drop j) (C.drop j) = p.f1 → s2 + tot 2 p.f0 (A.drop j) (C.drop j) = p.f2 → s4 + tot 4 p.f0 (A.drop j) (C.drop j) = p.f3 →
      Ev (fun k => laws_FnPayments.l1 k A C L L i (j : Int) p.f0 p.f1 p.f2 p.f3 p.f4 p.f0 s1 s2 s4 p.f4) true) ?_ ?_
  · intro s1 s2 s4 _ _ _ t1 t2 t4
    rw [List.drop_length] at t1 t2 t4
    have z : ∀ kd, tot kd p.f0 [] (C.drop A.length) = 0 := fun kd => by simp [tot]
    rw [z, Int.add_zero] at t1 t2 t4
    rw [t1, t2, t4]
    exact hend
  · intro j x hx hd ih s1 s2 s4 n1 n2 n4 t1 t2 t4
    have hj := some_lt hx
    have hjC : (j : Int) < (C.length : Int) := by rw [← hA]; exact ilt hj
    have hrx : rd_T33 A (j : Int) = x := getD_some hx
    have hy : C[j]? = some (C[j]'(by omega)) := List.getElem?_eq_getElem (by omega)
    have hdC : C.drop j = C[j]'(by omega) :: C.drop (j + 1) := List.drop_eq_getElem_cons (by omega)
    generalize (C[j]'(by omega) : Int) = c at hy hdC
    have hrc : rd C (j : Int) = c := getD_some hy
    rw [hd, hdC] at t1 t2 t4
    have u : ∀ kd, tot kd p.f0 (x :: A.drop (j + 1)) (c :: C.drop (j + 1)) = one kd p.f0 x c + tot kd p.f0 (A.drop (j + 1)) (C.drop (j + 1)) := fun _ => rfl
    rw [u] at t1 t2 t4
    have nd : Nn (A.drop (j + 1)) (C.drop (j + 1)) := fun i y d hy hd' => by
      rw [List.getElem?_drop] at hy hd'
      exact nn _ y d hy hd'
    have r1 := tot_nn (id := p.f0) (show (1 : Int) ≠ 3 by decide) _ _ nd
    have r2 := tot_nn (id := p.f0) (show (2 : Int) ≠ 3 by decide) _ _ nd
    have r4 := tot_nn (id := p.f0) (show (4 : Int) ≠ 3 by decide) _ _ nd
    have hw : wrap64 ((j : Int) + 1) = ((j + 1 : Nat) : Int) := wrap_succ hj (by unfold maxLen; omega)
    -- an act that doesn't count
    have skip : (∀ kd, kd ≠ 3 → one kd p.f0 x c = 0) → Ev (fun k => laws_FnPayments.l1 k A C L L i (wrap64 ((j : Int) + 1)) p.f0 p.f1 p.f2 p.f3 p.f4 p.f0 s1 s2 s4 p.f4) true := by
      intro hz
      rw [hz 1 (by decide)] at t1
      rw [hz 2 (by decide)] at t2
      rw [hz 4 (by decide)] at t4
      rw [hw]
      exact ih s1 s2 s4 n1 n2 n4 (by omega) (by omega) (by omega)
    have viaT : Ev (fun k => laws_FnPayments.l1 k A C L L i (wrap64 ((j : Int) + 1)) p.f0 p.f1 p.f2 p.f3 p.f4 p.f0 s1 s2 s4 p.f4) true → Ev (fun k => laws_FnPayments.j3 k A C L L i (j : Int) true p.f0 p.f1 p.f2 p.f3 p.f4 p.f0 s1 s2 s4 p.f4) true := fun h => Ev.step (fun k => by rw [laws_FnPayments.j3, if_pos rfl]) h
    by_cases c0 : c = 0
    · have e0 : ∃ b : Bool, (∀ k, laws_FnPayments.l1 (k + 1) A C L L i (j : Int) p.f0 p.f1 p.f2 p.f3 p.f4 p.f0 s1 s2 s4 p.f4 = laws_FnPayments.j3 k A C L L i (j : Int) b p.f0 p.f1 p.f2 p.f3 p.f4 p.f0 s1 s2 s4 p.f4) ∧ (x.f1.toList = p.f0.toList → b = false) ∧ (x.f1.toList ≠ p.f0.toList → b = true) := by
        apply Exists.intro
        apply And.intro
        · intro k
          rw [laws_FnPayments.l1, if_pos (ilt hj), if_pos (ige _), if_pos hjC, hrc, if_pos c0, hrx]
        · exact ⟨fun h => bne_eq_false_iff_eq.2 h, fun h => bne_iff_ne.2 h⟩
      obtain ⟨b, e0, bf, bt⟩ := e0
      have st : ∀ b', b = b' → Ev (fun k => laws_FnPayments.j3 k A C L L i (j : Int) b' p.f0 p.f1 p.f2 p.f3 p.f4 p.f0 s1 s2 s4 p.f4) true → Ev (fun k => laws_FnPayments.l1 k A C L L i (j : Int) p.f0 p.f1 p.f2 p.f3 p.f4 p.f0 s1 s2 s4 p.f4) true := by
        intro b' hb h
        rw [hb] at e0
        exact Ev.step e0 h
      by_cases hid : x.f1.toList = p.f0.toList
      · refine st false (bf hid) ?_
        subst c0
        have an : x.f0 ≠ 3 → 0 ≤ x.f2 := nn j x 0 hx hy rfl
        have go : ∀ m1 m2 m4 : Int, Ev (fun k => laws_FnPayments.l1 k A C L L i (wrap64 ((j : Int) + 1)) p.f0 p.f1 p.f2 p.f3 p.f4 p.f0 m1 m2 m4 p.f4) true → (∀ k, laws_FnPayments.j3 (k + 1) A C L L i (j : Int) false p.f0 p.f1 p.f2 p.f3 p.f4 p.f0 s1 s2 s4 p.f4 = laws_FnPayments.l1 k A C L L i (wrap64 ((j : Int) + 1)) p.f0 p.f1 p.f2 p.f3 p.f4 p.f0 m1 m2 m4 p.f4) → Ev (fun k => laws_FnPayments.j3 k A C L L i (j : Int) false p.f0 p.f1 p.f2 p.f3 p.f4 p.f0 s1 s2 s4 p.f4) true := fun _ _ _ h e => Ev.step e h
        by_cases k1 : x.f0 = 1
        · rw [one_eq hid k1] at t1
          rw [one_ne (fun _ _ => by omega)] at t2
          rw [one_ne (fun _ _ => by omega)] at t4
          have := an (by omega)
          refine go (s1 + x.f2) s2 s4 (by rw [hw]; exact ih _ s2 s4 (by omega) n2 n4 (by omega) (by omega) (by omega)) (fun k => ?_)
          rw [laws_FnPayments.j3, if_neg (by decide), if_pos (ige _), if_pos (ilt hj), hrx, if_pos k1, w64 (x := s1 + x.f2) (by omega) (by omega)]
        · by_cases k2 : x.f0 = 2
          · rw [one_ne (fun _ _ => by omega)] at t1
            rw [one_eq hid k2] at t2
            rw [one_ne (fun _ _ => by omega)] at t4
            have := an (by omega)
            refine go s1 (s2 + x.f2) s4 (by rw [hw]; exact ih s1 _ s4 n1 (by omega) n4 (by omega) (by omega) (by omega)) (fun k => ?_)
            rw [laws_FnPayments.j3, if_neg (by decide), if_pos (ige _), if_pos (ilt hj), hrx, if_neg k1, if_pos k2, w64 (x := s2 + x.f2) (by omega) (by omega)]
          · by_cases k4 : x.f0 = 4
            · rw [one_ne (fun _ _ => by omega)] at t1
              rw [one_ne (fun _ _ => by omega)] at t2
              rw [one_eq hid k4] at t4
              have := an (by omega)
              refine go s1 s2 (s4 + x.f2) (by rw [hw]; exact ih s1 s2 _ n1 n2 (by omega) (by omega) (by omega) (by omega)) (fun k => ?_)
              rw [laws_FnPayments.j3, if_neg (by decide), if_pos (ige _), if_pos (ilt hj), hrx, if_neg k1, if_neg k2, if_pos k4, w64 (x := s4 + x.f2) (by omega) (by omega)]
            · rw [one_ne (fun _ _ => by omega)] at t1
              rw [one_ne (fun _ _ => by omega)] at t2
              rw [one_ne (fun _ _ => by omega)] at t4
              refine go s1 s2 s4 (by rw [hw]; exact ih s1 s2 s4 n1 n2 n4 (by omega) (by omega) (by omega)) (fun k => ?_)
              rw [laws_FnPayments.j3, if_neg (by decide), if_pos (ige _), if_pos (ilt hj), hrx, if_neg k1, if_neg k2, if_neg k4]
      · refine st true (bt hid) (viaT (skip (fun kd _ => one_ne (fun _ h => absurd h hid))))
    · refine Ev.step (fun k => ?_) (viaT (skip (fun kd _ => one_ne (fun h => absurd h c0))))
      rw [laws_FnPayments.l1, if_pos (ilt hj), if_pos (ige _), if_pos hjC, hrc, if_neg c0]
theorem outer {A : List Ac} {C : List Int} {L : List P} (hJ : J A (C, L)) (hA : A.length ≤ 100) (hL : L.length ≤ 1000) : Ev (fun k => laws_FnPayments.l0 k A C L L 0) true := by
  obtain ⟨h1, h2, _, _, h5⟩ := hJ
  dsimp only at h1 h2 h5
  have key : Ev (fun k => laws_FnPayments.l0 k A C L L ((0 : Nat) : Int)) true := by
    refine down_list L (P := fun i => Ev (fun k => laws_FnPayments.l0 k A C L L (i : Int)) true) ?_ ?_
    · refine ev_succ (fun k => ?_)
      rw [laws_FnPayments.l0, if_neg (by omega)]
    · intro i p hp hd ih
      have hi := some_lt hp
      have hr : rd_T31 L (i : Int) = p := getD_some hp
      obtain ⟨q1, q2, q3, q4, q5, q6, q7, q8⟩ := h2 i p hp
      have hend : Ev (fun k => laws_FnPayments.l1 k A C L L (i : Int) (A.length : Int) p.f0 p.f1 p.f2 p.f3 p.f4 p.f0 p.f1 p.f2 p.f3 p.f4) true := by
        have e0 : (!(p.f0.toList == p.f0.toList) || (!(p.f1 == p.f1) || (!(p.f2 == p.f2) || (!(p.f3 == p.f3) || (!(p.f4 == p.f4)))))) = false := by simp
        refine Ev.step (f := fun k => laws_FnPayments.l0 k A C L L (wrap64 ((i : Int) + 1))) (fun k => ?_) (by rw [wrap_succ hi (by unfold maxLen; omega)]; exact ih)
        rw [laws_FnPayments.l1, if_neg (by omega), e0, if_neg (by decide), if_pos (ige _), if_pos (ilt hi), hr, e0, if_neg (by decide), if_neg (by omega), if_neg (by omega)]
        by_cases o : p.f4 = true
        · rw [if_pos o, if_neg (q8 o)]
        · rw [if_neg o]
      refine Ev.step (f := fun k => laws_FnPayments.l1 k A C L L (i : Int) ((0 : Nat) : Int) p.f0 p.f1 p.f2 p.f3 p.f4 p.f0 0 0 0 p.f4) (fun k => by rw [laws_FnPayments.l0, if_pos (ilt hi), if_pos (ige _), hr]; rfl) ?_
      exact inner h1 hA h5 q7 (by omega) (by omega) hend 0 0 0 (by omega) (by omega) (by omega) (by rw [List.drop_zero, List.drop_zero]; omega) (by rw [List.drop_zero, List.drop_zero]; omega) (by rw [List.drop_zero, List.drop_zero]; omega)
  simpa using key
theorem run_fin : ∀ (l : List Ac) (i : Int) (s : ZPayJ.St), ∃ s', run ZPayJ.step fin l i s = fin s'
  | [], _, s => ⟨s, rfl⟩
  | x :: l, i, s => run_fin l (i + 1) (nxt x s)
theorem FnPayments : laws_FnPayments.Pure := by
  intro l0 ⟨hl, hb⟩
  refine Ev.rounds ?_
  unfold laws_FnPayments.f
  by_cases c0 : (l0.length : Int) > 1048576
  · exact ev_pos c0 (ev_some _)
  refine ev_neg c0 ?_
  obtain ⟨A, eA, lA⟩ := payActs_ok (byt_of hb)
  have hm : A.length ≤ maxLen := by unfold maxLen; omega
  have es := pay_spec A hm
  have ei := pay_impl A hm
  have hlen := pay_len A
  have hj := run_j A 0 [] ([], []) j_zero
  obtain ⟨s', hs'⟩ := run_fin A 0 ([], [])
  have hB : payB A = fin s' := by unfold payB; rw [if_neg (by omega), if_neg (by omega)]; exact hs'
  rw [hs', List.nil_append] at hj
  rw [hB] at es ei hlen
  obtain ⟨C, L⟩ := s'
  unfold fin at es ei hj hlen
  dsimp only at hlen hj
  refine ev_bind eA (ev_bind ei (ev_bind es (ev_pos rfl (ev_bind (same_ints C (by unfold maxLen; omega)) (ev_pos rfl ?_)))))
  show Ev (fun k => laws_FnPayments.j0 k A C L L ((L.length : Int) != (L.length : Int))) true
  rw [bne_self_eq_false]
  exact Ev.step (fun k => by rw [laws_FnPayments.j0, if_neg (by decide)]) (outer hj (by omega) (by omega))
end Go.Proofs.Ythljgekhknfllaa.Pure
