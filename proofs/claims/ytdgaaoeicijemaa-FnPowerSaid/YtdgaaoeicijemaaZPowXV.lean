/- Powers with themselves; volts and amps exchanged. -/
import Derived.Test.YtdgaaoeicijemaaZPowsV
import Derived.Test.YtdgaaoeicijemaaFlips
namespace Go.Proofs.Ytdgaaoeicijemaa.ZPowXV
open Go.RowKit Go.Proofs.Ytdgaaoeicijemaa.V Go.Proofs.Ytdgaaoeicijemaa.Lib Go.Proofs.Ytdgaaoeicijemaa.Flo Go.Proofs.Ytdgaaoeicijemaa.ZPowsV Go.Proofs.YtdgaaoeicijemaaW.PrintWords Go.Proofs.YtdgaaoeicijemaaW.PrintLast Go.Proofs.YtdgaaoeicijemaaW.PrintMore

theorem run_two {α S T R R' : Type} (step : Int → α → S → S ⊕ R) (step' : Int → α → T → T ⊕ R') (fin : S → R) (fin' : T → R') (Inv : Nat → S → T → Prop) :
    ∀ (l m : List α) (i : Nat) (s : S) (t : T), l.length = m.length →
      (∀ (j : Nat) x y s t, l[j]? = some x → m[j]? = some y → Inv (i + j) s t → ∃ s' t', step ((i + j : Nat) : Int) x s = .inl s' ∧ step' ((i + j : Nat) : Int) y t = .inl t' ∧ Inv (i + j + 1) s' t') →
      Inv i s t → ∃ s' t', run step fin l (i : Int) s = fin s' ∧ run step' fin' m (i : Int) t = fin' t' ∧ Inv (i + l.length) s' t'
  | [], m, i, s, t, hl, _, hi => by
    have : m = [] := List.length_eq_zero_iff.1 (by simpa using hl.symm)
    subst this
    exact ⟨s, t, rfl, rfl, hi⟩
  | x :: l, [], i, s, t, hl, _, _ => by simp at hl
  | x :: l, y :: m, i, s, t, hl, h, hi => by
    obtain ⟨s1, t1, h1, h2, h3⟩ := h 0 x y s t rfl rfl hi
    obtain ⟨s2, t2, g1, g2, g3⟩ := run_two step step' fin fin' Inv l m (i + 1) s1 t1 (by simpa using hl) (fun j x' y' s' t' hx hy hj => by
      have := h (j + 1) x' y' s' t' (by simpa using hx) (by simpa using hy) (by rw [show i + (j + 1) = i + 1 + j by omega]; exact hj)
      rw [show i + (j + 1) = i + 1 + j by omega] at this
      exact this) h3
    refine ⟨s2, t2, ?_, ?_, ?_⟩
    · rw [← g1]
      rw [Nat.add_zero] at h1
      rw [run, h1]
      push_cast; rfl
    · rw [← g2]
      rw [Nat.add_zero] at h2
      rw [run, h2]
      push_cast; rfl
    · rw [List.length_cons, show i + (l.length + 1) = i + 1 + l.length by omega]; exact g3
theorem times_parts {p q : Pw} (h0 : B Ieee.double 1094 p.f0) (h1 : B Ieee.double 1094 p.f1) (g0 : B Ieee.double 1094 q.f0) (g1 : B Ieee.double 1094 q.f1) :
    ∃ a b c d, Ieee.double.mul p.f0 q.f0 = some a ∧ Ieee.double.mul p.f1 (Op.negFloat .f64 q.f1) = some b ∧ Ieee.double.mul p.f0 (Op.negFloat .f64 q.f1) = some c ∧ Ieee.double.mul p.f1 q.f0 = some d ∧
      Ieee.double.sub a b = some (times p q).1 ∧ Ieee.double.add c d = some (times p q).2 ∧ B Ieee.double 1114 a ∧ B Ieee.double 1114 b ∧ B Ieee.double 1114 c ∧ B Ieee.double 1114 d ∧ B Ieee.double 1115 (times p q).1 ∧ B Ieee.double 1115 (times p q).2 := by
  have g2 : B Ieee.double 1094 (Op.negFloat .f64 q.f1) := B.neg g1
  obtain ⟨a, ha, ba⟩ := B.mul (t := 1114) h0 g0 (by decide) (by decide) (by decide) (by decide)
  obtain ⟨b, hb, bb⟩ := B.mul (t := 1114) h1 g2 (by decide) (by decide) (by decide) (by decide)
  obtain ⟨c, hc, bc⟩ := B.mul (t := 1114) h0 g2 (by decide) (by decide) (by decide) (by decide)
  obtain ⟨d, hd, bd⟩ := B.mul (t := 1114) h1 g0 (by decide) (by decide) (by decide) (by decide)
  obtain ⟨e, he, be⟩ := B.sub ba bb (by decide) (by decide)
  obtain ⟨f, hf, bf⟩ := B.add bc bd (by decide) (by decide)
  have ha' : floatBits .mul .f64 p.f0 q.f0 = some a := ha
  have hb' : floatBits .mul .f64 p.f1 (Op.negFloat .f64 q.f1) = some b := hb
  have hc' : floatBits .mul .f64 p.f0 (Op.negFloat .f64 q.f1) = some c := hc
  have hd' : floatBits .mul .f64 p.f1 q.f0 = some d := hd
  have he' : floatBits .sub .f64 a b = some e := he
  have hf' : floatBits .add .f64 c d = some f := hf
  have e3 : times p q = (e, f) := by
    unfold times impl_Power_times.f
    simp only [ha', hb', hc', hd', he', hf', Option.bind_some, Option.getD_some]
  rw [e3]
  exact ⟨a, b, c, d, ha, hb, hc, hd, he, hf, ba, bb, bc, bd, be, bf⟩
theorem times_self {p : Pw} (h0 : B Ieee.double 1094 p.f0) (h1 : B Ieee.double 1094 p.f1) : Po (times p p).1 ∧ Z (times p p).2 := by
  obtain ⟨a, b, c, d, ha, hb, hc, hd, he, hf, ba, bb, bc, bd, be, bf⟩ := times_parts h0 h1 h0 h1
  refine ⟨po_sub (mul_self h0 ha ba.fin) (mul_neg_self h1 hb bb.fin) he be.fin, ?_⟩
  rw [mul_comm_bits] at hc
  rw [add_comm_bits] at hf
  exact flip_sum (flip_mul (flip_neg h1) h0 hd hc bd.fin) hf
theorem flip_symm {x y : Nat} (h : Flip x y) : Flip y x := by
  obtain ⟨s, s', m, i, h1, h2, h3⟩ := h
  refine ⟨s', s, m, i, h2, h1, ?_⟩
  rcases h3 with h | h
  · exact .inl h
  · right; rw [h]; cases s <;> rfl
theorem times_swap {p q : Pw} (h0 : B Ieee.double 1094 p.f0) (h1 : B Ieee.double 1094 p.f1) (g0 : B Ieee.double 1094 q.f0) (g1 : B Ieee.double 1094 q.f1) :
    (times q p).1 = (times p q).1 ∧ Flip (times p q).2 (times q p).2 := by
  obtain ⟨a, b, c, d, ha, hb, hc, hd, he, hf, ba, bb, bc, bd, be, bf⟩ := times_parts h0 h1 g0 g1
  obtain ⟨a', b', c', d', ha', hb', hc', hd', he', hf', ba', bb', bc', bd', be', bf'⟩ := times_parts g0 g1 h0 h1
  have e1 : a' = a := by
    rw [mul_comm_bits, ha] at ha'
    exact (Option.some.inj ha').symm
  have e2 : b' = b := by
    rw [mul_neg_swap g1 h1, hb] at hb'
    exact (Option.some.inj hb').symm
  refine ⟨?_, ?_⟩
  · rw [e1, e2, he] at he'
    exact (Option.some.inj he').symm
  · rw [mul_comm_bits] at hc hc'
    rw [add_comm_bits] at hf'
    exact flip_add (flip_symm (flip_mul (flip_neg g1) h0 hd' hc bd'.fin)) (flip_mul (flip_neg h1) g0 hd hc' bd.fin) hf hf' bf.fin
theorem powersB_ok {l : List Pw} (hl : l.length ≤ 5) (h : ∀ p ∈ l, okP p = true) : powersB l = true := by
  unfold powersB
  rw [decide_eq_true (by omega), Bool.true_and]
  exact List.all_eq_true.2 h
theorem ok_bd {p : Pw} (h : okP p = true) : B Ieee.double 1094 p.f0 ∧ B Ieee.double 1094 p.f1 := by
  unfold okP at h
  rw [Bool.and_eq_true] at h
  exact ⟨inP_bd h.1, inP_bd h.2⟩
theorem powB_ok {l m : List Pw} (hl : l.length ≤ 5) (hm : l.length = m.length) (h : ∀ p ∈ l, okP p = true) (g : ∀ p ∈ m, okP p = true) : powB l m = run (ZPowsV.step m) fin l 0 (0, 0) := by
  unfold powB
  rw [if_neg (by omega), powersB_ok hl h, powersB_ok (by omega) g, if_pos (by rfl), if_pos hm]
theorem b_zero (p : Nat) : B Ieee.double p 0 := by
  refine ⟨false, 0, 0, by decide, ?_⟩
  rw [Nat.zero_mul]; exact Nat.zero_le _
theorem add_at {i x y : Nat} (hi : i < 8) (hx : B Ieee.double (1115 + i) x) (hy : B Ieee.double 1115 y) : ∃ r, Ieee.double.add x y = some r ∧ B Ieee.double (1115 + (i + 1)) r :=
  B.add (p := 1115 + i) hx (hy.mono (Nat.le_add_right _ _)) (show 52 ≤ 1115 + i + 1 by omega) (show 1115 + i + 1 - 52 + 1 < 2 ^ 11 - 1 by omega)
def InvO (i : Nat) (s t : Nat × Nat) : Prop := s = t ∧ B Ieee.double (1115 + i) s.1 ∧ B Ieee.double (1115 + i) s.2 ∧ Po s.1 ∧ Z s.2
theorem pow_own {v : List Pw} (hl : v.length ≤ 5) (h : ∀ p ∈ v, okP p = true) : ∃ re im, powB v v = (re, im, 0) ∧ Po re ∧ Z im := by
  obtain ⟨s, t, h1, _, _, _, _, h4, h5⟩ := run_two (ZPowsV.step v) (ZPowsV.step v) fin fin InvO v v 0 (0, 0) (0, 0) rfl (fun j x y s t hx hy hs => by
    have hj := some_lt hx
    obtain ⟨b0, b1⟩ := ok_bd (h x (List.mem_of_getElem? hx))
    have hr : rd_T61 v ((0 + j : Nat) : Int) = x := by rw [Nat.zero_add]; exact getD_some hx
    have hxy : y = x := by rw [hx] at hy; exact (Option.some.inj hy).symm
    obtain ⟨_, _, _, _, _, _, _, _, _, _, _, _, _, _, be, bf⟩ := times_parts b0 b1 b0 b1
    obtain ⟨po, z⟩ := times_self b0 b1
    obtain ⟨c0, c1, c2, c3, c4⟩ := hs
    obtain ⟨r, e1, n1⟩ := add_at (by omega) c1 be
    obtain ⟨r', e2, n2⟩ := add_at (by omega) c2 bf
    have e1' : floatBits .add .f64 s.1 (times x x).1 = some r := e1
    have e2' : floatBits .add .f64 s.2 (times x x).2 = some r' := e2
    have hst : ZPowsV.step v ((0 + j : Nat) : Int) x s = .inl (r, r') := by
      unfold ZPowsV.step
      rw [hr, e1', e2']; rfl
    refine ⟨_, _, hst, ?_, rfl, n1, n2, po_add c3 po e1 n1.fin, z_add c4 z e2⟩
    rw [← c0, hxy]; exact hst) ⟨rfl, b_zero _, b_zero _, po_zero, z_zero⟩
  refine ⟨s.1, s.2, ?_, h4, h5⟩
  rw [powB_ok hl rfl h h]
  exact h1
def InvX (i : Nat) (s t : Nat × Nat) : Prop := t.1 = s.1 ∧ B Ieee.double (1115 + i) s.1 ∧ B Ieee.double (1115 + i) s.2 ∧ B Ieee.double (1115 + i) t.2 ∧ Flip s.2 t.2
theorem flip_zero : Flip 0 0 := ⟨false, false, 0, Ieee.double.leastPlace, by decide, by decide, .inl rfl⟩
theorem pow_swap {l m : List Pw} (hl : l.length ≤ 5) (hm : l.length = m.length) (h : ∀ p ∈ l, okP p = true) (g : ∀ p ∈ m, okP p = true) :
    ∃ re im im', powB l m = (re, im, 0) ∧ powB m l = (re, im', 0) ∧ Flip im im' ∧ NN Ieee.double re ∧ NN Ieee.double im := by
  obtain ⟨s, t, h1, h2, h3, h4, h5, _, h6⟩ := run_two (ZPowsV.step m) (ZPowsV.step l) fin fin InvX l m 0 (0, 0) (0, 0) hm (fun j x y s t hx hy hs => by
    have hj := some_lt hx
    obtain ⟨b0, b1⟩ := ok_bd (h x (List.mem_of_getElem? hx))
    obtain ⟨d0, d1⟩ := ok_bd (g y (List.mem_of_getElem? hy))
    have hr : rd_T61 m ((0 + j : Nat) : Int) = y := by rw [Nat.zero_add]; exact getD_some hy
    have hr' : rd_T61 l ((0 + j : Nat) : Int) = x := by rw [Nat.zero_add]; exact getD_some hx
    obtain ⟨_, _, _, _, _, _, _, _, _, _, _, _, _, _, be, bf⟩ := times_parts b0 b1 d0 d1
    obtain ⟨_, _, _, _, _, _, _, _, _, _, _, _, _, _, be', bf'⟩ := times_parts d0 d1 b0 b1
    obtain ⟨ws, wf⟩ := times_swap b0 b1 d0 d1
    obtain ⟨c0, c1, c2, c3, c4⟩ := hs
    obtain ⟨r, e1, n1⟩ := add_at (by omega) c1 be
    obtain ⟨r2, e2, n2⟩ := add_at (by omega) c2 bf
    obtain ⟨r3, e3, n3⟩ := add_at (by omega) c3 bf'
    have e1' : floatBits .add .f64 s.1 (times x y).1 = some r := e1
    have e2' : floatBits .add .f64 s.2 (times x y).2 = some r2 := e2
    have e3' : floatBits .add .f64 t.2 (times y x).2 = some r3 := e3
    have hst : ZPowsV.step m ((0 + j : Nat) : Int) x s = .inl (r, r2) := by
      unfold ZPowsV.step
      rw [hr, e1', e2']; rfl
    have hst' : ZPowsV.step l ((0 + j : Nat) : Int) y t = .inl (r, r3) := by
      unfold ZPowsV.step
      rw [hr', ws, c0, e1', e3']; rfl
    exact ⟨_, _, hst, hst', rfl, n1, n2, n3, flip_add c4 wf e2 e3 n2.fin⟩) ⟨rfl, b_zero _, b_zero _, b_zero _, flip_zero⟩
  refine ⟨s.1, s.2, t.2, ?_, ?_, h6, h4.nn, h5.nn⟩
  · rw [powB_ok hl hm h g]
    exact h1
  · rw [powB_ok (by omega) hm.symm g h]
    refine Eq.trans h2 ?_
    unfold fin
    rw [h3]
theorem bri_nn {l : List Pw} (hl : l.length ≤ 5) (h : ∀ p ∈ l, okP p = true) : NN Ieee.double (briB l).1 ∧ NN Ieee.double (briB l).2.1 := by
  unfold briB
  rw [if_neg (by omega), if_pos (powersB_ok hl h)]
  have key : ∀ (l : List Pw) (i : Int) (s : Nat × Nat), (∀ p ∈ l, okP p = true) → NN Ieee.double s.1 → NN Ieee.double s.2 → NN Ieee.double (run bstep bfin l i s).1 ∧ NN Ieee.double (run bstep bfin l i s).2.1 := by
    intro l
    induction l with
    | nil => intro i s _ h1 h2; exact ⟨h1, h2⟩
    | cons p l ih =>
      intro i s hp h1 h2
      obtain ⟨b0, b1⟩ := ok_bd (hp p (List.mem_cons_self ..))
      obtain ⟨a, b, e1, e2, e3, e4⟩ := sq_eq b0 b1
      rw [run]
      by_cases hz : fEq .f64 (sq p) 0 = true
      · have hst : bstep i p s = .inr (0, 0, 10) := by unfold bstep; rw [if_pos hz]
        rw [hst]
        exact ⟨zero_nn, zero_nn⟩
      · obtain ⟨e5, e6, b5, b6⟩ := e4 hz
        obtain ⟨c, hc, nc⟩ := B.addNN h1 b5
        obtain ⟨d, hd, nd⟩ := B.addNN h2 b6
        have hc' : floatBits .add .f64 s.1 (dRe p) = some c := hc
        have hd' : floatBits .add .f64 s.2 (dIm p) = some d := hd
        have hst : bstep i p s = .inl (c, d) := by unfold bstep; rw [if_neg hz, hc', hd']; rfl
        rw [hst]
        exact ih _ _ (fun q hq => hp q (List.mem_cons_of_mem _ hq)) nc nd
  exact key l 0 (0, 0) h zero_nn zero_nn
end Go.Proofs.Ytdgaaoeicijemaa.ZPowXV
