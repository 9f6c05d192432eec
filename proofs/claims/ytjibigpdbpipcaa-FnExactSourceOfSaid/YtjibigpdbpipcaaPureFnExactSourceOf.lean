/- FnExactSourceOf: at every argument the program's SourceOf answers as the reference's, field by field; it writes into no argument and keeps nothing of one.
   For all sources, wishes and orders whose sizes are within the statement's bound. -/
import Derived.Test.YtjibigpdbpipcaaZSrcRunL
import Derived.Test.YtjibigpdbpipcaaZMarkIL
namespace Go.Proofs.Ytjibigpdbpipcaa.Pure
open Go.RowKit Go.Proofs.Ytjibigpdbpipcaa.L Go.Proofs.Ytjibigpdbpipcaa.Lib Go.Proofs.Ytjibigpdbpipcaa.ZNameL Go.Proofs.Ytjibigpdbpipcaa.ZSourcesL Go.Proofs.Ytjibigpdbpipcaa.ZSrcRunL Go.Proofs.Ytjibigpdbpipcaa.ZMarkIL Go.Proofs.YtjibigpdbpipcaaW.PrintWords Go.Proofs.YtjibigpdbpipcaaW.PrintLast Go.Proofs.YtjibigpdbpipcaaW.PrintMore
theorem to_ints (l : List Int) (hl : l.length ≤ 1048576) : Ev (fun k => laws_toIntS.f k l) l := by
  unfold laws_toIntS.f
  simp only [if_pos (ige _), Int.toNat_natCast, if_pos (show l.length ≤ 35184372088832 by omega)]
  refine ev_eq (to_ev l _ id (fun k out i => laws_toIntS.l0 k l out i) (by unfold maxLen; omega) (fun k out i x hx ho => ?_) (fun k out => ?_)) (List.map_id l)
  · have := some_lt hx
    have hr : rd l (i : Int) = x := getD_some hx
    simp only [laws_toIntS.l0, hr]
    rw [if_pos (ilt this), if_pos (ige _), if_pos (by omega)]; rfl
  · simp only [laws_toIntS.l0]
    rw [if_neg (by omega)]
/-! ### the marks' numbers -/
theorem text_big (a : Int) (h : a ≤ 4398046511104) : ∃ t, Ev (fun k => laws_markText.f k a) t := by
  unfold laws_markText.f
  by_cases h0 : a ≤ 0
  · exact ⟨_, ev_pos h0 (ev_some _)⟩
  · have key : ∀ (n : Nat) (b : Int) (s : ByteArray), b ≤ (n : Int) → 0 ≤ b → (s.size : Int) + b ≤ 8796093022208 → ∃ t, Ev (fun k => laws_markText.l0 k b s) t := by
      intro n
      induction n with
      | zero =>
        intro b s h1 h2 h3
        refine ⟨(⟨#[109]⟩ : ByteArray) ++ s, ev_succ (fun k => ?_)⟩
        simp only [laws_markText.l0]
        rw [if_neg (by omega), if_pos (by omega)]
      | succ n ih =>
        intro b s h1 h2 h3
        by_cases hb : b > 0
        · have hd : wrap64 (Int.tdiv b 10) = b / 10 := by
            rw [Int.tdiv_eq_ediv_of_nonneg h2]
            exact w64 (by omega) (by omega)
          have hsz : (strOfNums [(wrap64 (48 + (Int.tmod b 10))) % 256]).size = 1 := rfl
          have hap : (strOfNums [(wrap64 (48 + (Int.tmod b 10))) % 256] ++ s).size = 1 + s.size := by rw [ByteArray.size_append, hsz]
          obtain ⟨t, hE⟩ := ih (b / 10) (strOfNums [(wrap64 (48 + (Int.tmod b 10))) % 256] ++ s) (by omega) (by omega) (by rw [hap]; omega)
          refine ⟨t, Ev.step (fun k => ?_) hE⟩
          rw [laws_markText.l0, if_pos hb, Option.bind_some, if_pos (by rw [hsz]; omega), hd]
        · refine ⟨(⟨#[109]⟩ : ByteArray) ++ s, ev_succ (fun k => ?_)⟩
          simp only [laws_markText.l0]
          rw [if_neg hb, if_pos (by omega)]
    obtain ⟨t, hE⟩ := key a.toNat a ⟨#[]⟩ (by omega) (by omega) (by show ((0 : Nat) : Int) + a ≤ _; omega)
    exact ⟨t, ev_neg h0 hE⟩
theorem rows_ev : ∀ (m : Nat) (a : Int), 0 ≤ a → a + 2 * (m : Int) ≤ 4398046511104 → Ev (fun k => hv_rows k m a) (a + 2 * (m : Int))
  | 0, a, _, _ => ev_eq (ev_some a) (by omega)
  | m + 1, a, h0, h => by
    obtain ⟨t, ht⟩ := text_big a (by omega)
    have w : wrap64 (wrap64 (a + 1) + 1) = a + 2 := by rw [w64 (x := a + 1) (by omega) (by omega), w64 (by omega) (by omega)]; omega
    refine ev_eq (ev_bind ht (ev_same (rows_ev m (a + 2) (by omega) (by omega)) (fun k => by rw [w]))) (by omega)
theorem marks_ev : ∀ (L : List Src) (a : Int), (∀ p ∈ L, p.f2.length ≤ 1048576) → 0 ≤ a → a + 2097154 * (L.length : Int) ≤ 4398046511104 → ∃ t, Ev (fun k => laws_markSourceS.f k L a) t ∧ 0 ≤ t ∧ t ≤ a + 2097154 * (L.length : Int)
  | [], a, _, h0, _ => ⟨a, ev_some a, h0, by simp⟩
  | x :: L, a, hx, h0, h => by
    have hx1 := hx x (by simp)
    simp only [List.length_cons] at h
    obtain ⟨t, ht⟩ := text_big a (by omega)
    have w : wrap64 (wrap64 (a + 1) + 1) = a + 2 := by rw [w64 (x := a + 1) (by omega) (by omega), w64 (by omega) (by omega)]; omega
    have hr := rows_ev x.f2.length (a + 2) (by omega) (by omega)
    obtain ⟨u, hu, u0, u1⟩ := marks_ev L (a + 2 + 2 * (x.f2.length : Int)) (fun p hp => hx p (by simp [hp])) (by omega) (by omega)
    exact ⟨u, ev_bind ht (ev_bind (ev_same hr (fun k => by rw [w])) hu), u0, by simp only [List.length_cons]; omega⟩
theorem mark_stock (l : List Stk) (a : Int) (hl : l.length ≤ 1048576) (h0 : 0 ≤ a) (h1 : a ≤ 4000000000000) : ∃ w, Ev (fun k => laws_markStockedS.f k l a) (a + 2 * (l.length : Int), w) := by
  unfold laws_markStockedS.f
  have key := down (n := l.length) (P := fun i => ∀ (out : List Stk) (n : Int), out.length = l.length → n = a + 2 * (i : Int) → ∃ w, Ev (fun k => laws_markStockedS.l0 k out n (i : Int)) (a + 2 * (l.length : Int), w)) ?_ ?_ 0 (Nat.zero_le _)
  · exact key l a rfl (by omega)
  · intro out n ho hn
    refine ⟨out, ev_succ (fun k => ?_)⟩
    simp only [laws_markStockedS.l0]
    rw [if_neg (by omega), hn]
  · intro i hi ih out n ho hn
    have w1 : wrap64 (n + 1) = n + 1 := w64 (by omega) (by omega)
    have w2 : wrap64 (n + 1 + 1) = n + 1 + 1 := w64 (by omega) (by omega)
    obtain ⟨t, ht⟩ := text_big n (by omega)
    obtain ⟨w, hw⟩ := ih ((out.set i (⟨t, (rd_T76 out (i : Int)).f1⟩ : Stk)).set i (⟨(rd_T76 (out.set i (⟨t, (rd_T76 out (i : Int)).f1⟩ : Stk)) (i : Int)).f0, n + 1⟩ : Stk)) (n + 1 + 1) (by rw [List.length_set, List.length_set]; exact ho) (by omega)
    refine ⟨w, Ev.step (f := fun k => (laws_markText.f k n).bind fun t => laws_markStockedS.l0 k ((out.set i (⟨t, (rd_T76 out (i : Int)).f1⟩ : Stk)).set i (⟨(rd_T76 (out.set i (⟨t, (rd_T76 out (i : Int)).f1⟩ : Stk)) (i : Int)).f0, n + 1⟩ : Stk)) (n + 1 + 1) ((i + 1 : Nat) : Int)) (fun k => ?_) (ev_bind ht hw)⟩
    simp only [laws_markStockedS.l0, Option.bind_some, w1, w2, Int.toNat_natCast, if_pos (ige i)]
    rw [if_pos (by omega), wrap_succ hi (by unfold maxLen; omega)]
theorem mark_ints (l : List Int) (a : Int) (hl : l.length ≤ 1048576) (h0 : 0 ≤ a) (h1 : a ≤ 5000000000000) : ∃ w, Ev (fun k => laws_markIntS.f k l a) (a + (l.length : Int), w) := by
  unfold laws_markIntS.f
  have key := down (n := l.length) (P := fun i => ∀ (out : List Int) (n : Int), out.length = l.length → n = a + (i : Int) → ∃ w, Ev (fun k => laws_markIntS.l0 k out n (i : Int)) (a + (l.length : Int), w)) ?_ ?_ 0 (Nat.zero_le _)
  · exact key l a rfl (by omega)
  · intro out n ho hn
    refine ⟨out, ev_succ (fun k => ?_)⟩
    simp only [laws_markIntS.l0]
    rw [if_neg (by omega), hn]
  · intro i hi ih out n ho hn
    have w1 : wrap64 (n + 1) = n + 1 := w64 (by omega) (by omega)
    obtain ⟨w, hw⟩ := ih (out.set i n) (n + 1) (by rw [List.length_set]; exact ho) (by omega)
    refine ⟨w, Ev.step (fun k => ?_) hw⟩
    simp only [laws_markIntS.l0, w1, Int.toNat_natCast]
    rw [if_pos (by omega), if_pos (ige _), wrap_succ hi (by unfold maxLen; omega)]
theorem eq_srcing (o : List Int) (n c : Int) (ho : o.length ≤ maxLen) : Ev (fun k => laws_eqSourcing.f k o n c o n c) true := by
  unfold laws_eqSourcing.f
  exact ev_bind (eq_ints o ho) (ev_pos rfl (ev_pos rfl (ev_pos rfl (ev_some _))))
theorem FnExactSourceOf : laws_FnExactSourceOf.Pure := by
  intro l0 l1 l2 ⟨hl, hr⟩ ⟨hm, hq⟩ _
  refine Ev.rounds ?_
  unfold laws_FnExactSourceOf.f
  by_cases c1 : (l2.length : Int) > 1048576
  · exact ev_pos c1 (ev_some _)
  refine ev_neg c1 ?_
  obtain ⟨m, e, hb⟩ := sz_source l0 1048576 hl (fun p hp => ⟨(hr p hp).1, (hr p hp).2.2.1, fun q hq => ((hr p hp).2.2.2 q hq).1⟩) (by omega) (by omega)
  refine ev_bind e ?_
  rcases hb with h0 | ⟨h0, h1, h2, h3⟩
  · exact ev_pos h0 (ev_some _)
  refine ev_neg (by omega) ?_
  obtain ⟨b, e', hb'⟩ := sz_stock l1 m hm (fun p hp => (hq p hp).1) h0 h1
  refine ev_bind e' ?_
  rcases hb' with g0 | ⟨g0, g1, g2⟩
  · exact ev_pos g0 (ev_some _)
  refine ev_neg (by omega) ?_
  have t0 := to_source l0 (by omega) (fun p hp => by have := h3 p hp; omega)
  have t1 := to_stock l1 (by omega)
  have t2 := to_ints l2 (by omega)
  have e0 : (l0.map cvSo).length ≤ 1048576 := by rw [List.length_map]; omega
  have e1 : (l1.map cvSt).length ≤ 1048576 := by rw [List.length_map]; omega
  have e2 : ∀ p ∈ l0.map cvSo, p.f2.length ≤ 1048576 := by
    intro p hp
    obtain ⟨q, hq, rfl⟩ := List.mem_map.1 hp
    have := h3 q hq
    show (q.f2.map cvSt).length ≤ 1048576
    rw [List.length_map]; omega
  generalize l0.map cvSo = L at t0 e0 e2
  generalize l1.map cvSt = W at t1 e1
  obtain ⟨r, ei, es, ho⟩ := src_both L W l2 e2
  obtain ⟨o, n, c, d⟩ := r
  dsimp only at ho
  have q := eq_srcing o n c (by unfold maxLen; omega)
  obtain ⟨u, hu, u0, u1⟩ := marks_ev L 1 e2 (by omega) (by omega)
  obtain ⟨w, hw⟩ := mark_stock W u e1 u0 (by omega)
  obtain ⟨z, hz⟩ := mark_ints l2 (u + 2 * (W.length : Int)) (by omega) (by omega) (by omega)
  have k1 := markI_ev o 1 (by omega) (by omega) (by omega)
  have k3 := heldI_ev o 1 (by omega) (by omega) (by omega)
  have hk : Ev (fun k => laws_markSourcing.f k o n c 1) (1 + (o.length : Int), mkI 1 o) := by
    unfold laws_markSourcing.f
    exact ev_bind k1 (ev_some _)
  have hh : Ev (fun k => laws_heldSourcing.f k (mkI 1 o) n c 1) (1 + (o.length : Int)) := by
    unfold laws_heldSourcing.f
    exact ev_bind k3 (ev_neg (by omega) (ev_some _))
  have f2 : Ev (fun k => laws_FnExactSourceOf.j2 k (1 + (o.length : Int)) false (mkI 1 o) n c) true := by
    refine Ev.step (f := fun k => (laws_heldSourcing.f k (mkI 1 o) n c 1).bind fun t369 => (if t369 < 0 then (some false) else (if t369 = 1 + (o.length : Int) then (some true) else (some false)))) (fun k => by simp only [laws_FnExactSourceOf.j2]; rw [if_neg (by simp)]) ?_
    exact ev_bind hh (ev_neg (by omega) (ev_pos rfl (ev_some _)))
  have f1 : Ev (fun k => laws_FnExactSourceOf.j1 k l0 l1 l2 d false o n c o n c) true := by
    refine Ev.step (f := fun k => (laws_markSourcing.f k o n c 1).bind fun bt349 => ((laws_heldSourcing.f k bt349.2 n c 1).bind fun t351 => (if t351 < 0 then (some false) else (if t351 = bt349.1 then ((laws_toSourceS.f k l0).bind fun t352 => ((laws_toStockedS.f k l1).bind fun t355 => ((laws_toIntS.f k l2).bind fun t358 => ((impl_SourceOf.f k t352 t355 t358).bind fun bt361 => ((laws_eqSourcing.f k bt361.1 bt361.2.1 bt361.2.2.1 o n c).bind fun t368 => (if t368 = true then (laws_FnExactSourceOf.j2 k bt349.1 (bt361.2.2.2 != d) bt349.2 n c) else (laws_FnExactSourceOf.j2 k bt349.1 true bt349.2 n c))))))) else (some false))))) (fun k => by simp only [laws_FnExactSourceOf.j1]; rw [if_neg (by simp)]) ?_
    refine ev_bind hk (ev_bind hh (ev_neg (by omega) (ev_pos rfl (ev_bind t0 (ev_bind t1 (ev_bind t2 (ev_bind ei (ev_bind q (ev_pos rfl ?_)))))))))
    show Ev (fun k => laws_FnExactSourceOf.j2 k (1 + (o.length : Int)) (d != d) (mkI 1 o) n c) true
    rw [bne_self_eq_false]
    exact f2
  have f0 : Ev (fun k => laws_FnExactSourceOf.j0 k l0 l1 l2 d L W l2 d false o n c o n c) true := by
    refine Ev.step (f := fun k => (laws_toSourceS.f k l0).bind fun t331 => ((laws_eqSourceS.f k L t331).bind fun t334 => (if t334 = true then ((laws_toStockedS.f k l1).bind fun t335 => ((laws_eqStockedS.f k W t335).bind fun t338 => (if t338 = true then ((laws_toIntS.f k l2).bind fun t339 => ((laws_eqIntS.f k l2 t339).bind fun t342 => (if t342 = true then ((laws_markSourceS.f k L 1).bind fun t343 => ((laws_markStockedS.f k W t343).bind fun bt344 => ((laws_markIntS.f k l2 bt344.1).bind fun bt346 => (if bt346.1 < 0 then (laws_FnExactSourceOf.j1 k l0 l1 l2 d true o n c o n c) else ((laws_eqSourcing.f k o n c o n c).bind fun t348 => (if t348 = true then (laws_FnExactSourceOf.j1 k l0 l1 l2 d (d != d) o n c o n c) else (laws_FnExactSourceOf.j1 k l0 l1 l2 d true o n c o n c))))))) else (some false)))) else (some false)))) else (some false)))) (fun k => by simp only [laws_FnExactSourceOf.j0]; rw [if_neg (by simp)]) ?_
    refine ev_bind t0 (ev_bind (eq_source L (by unfold maxLen; omega) (fun p hp => by have := e2 p hp; unfold maxLen; omega)) (ev_pos rfl (ev_bind t1 (ev_bind (eq_stock W (by unfold maxLen; omega)) (ev_pos rfl (ev_bind t2 (ev_bind (eq_ints l2 (by unfold maxLen; omega)) (ev_pos rfl (ev_bind hu (ev_bind hw (ev_bind hz (ev_neg (by dsimp only; omega) (ev_bind q (ev_pos rfl ?_))))))))))))))
    rw [bne_self_eq_false]
    exact f1
  refine ev_bind t0 (ev_bind t1 (ev_bind t2 (ev_bind es (ev_bind t0 (ev_bind t1 (ev_bind t2 (ev_bind ei (ev_bind q (ev_pos rfl ?_)))))))))
  show Ev (fun k => laws_FnExactSourceOf.j0 k l0 l1 l2 d L W l2 d (d != d) o n c o n c) true
  rw [bne_self_eq_false]
  exact f0
end Go.Proofs.Ytjibigpdbpipcaa.Pure
