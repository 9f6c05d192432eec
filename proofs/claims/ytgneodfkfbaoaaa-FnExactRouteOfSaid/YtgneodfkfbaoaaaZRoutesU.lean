/- Stops with a minute; the way between two stops; the law's marks on lists of whole numbers. -/
import Derived.Test.YtgneodfkfbaoaaaZStopsU
import Derived.Test.YtgneodfkfbaoaaaZIntsU
namespace Go.Proofs.Ytgneodfkfbaoaaa.ZRoutesU
open Go.RowKit Go.Proofs.Ytgneodfkfbaoaaa.U Go.Proofs.Ytgneodfkfbaoaaa.Lib Go.Proofs.Ytgneodfkfbaoaaa.ZStopsU Go.Proofs.YtgneodfkfbaoaaaW.PrintWords Go.Proofs.YtgneodfkfbaoaaaW.PrintLast Go.Proofs.YtgneodfkfbaoaaaW.PrintMore

/-- The code of stops and a minute. -/
def codeB (l : List S37) (a : Int) : Int := if l.length > 4096 then 2 else if stopsB l = true then (if 0 ≤ a ∧ a ≤ 100000 then 0 else 5) else 1
theorem code_spec (l : List S37) (a : Int) (hl : l.length ≤ maxLen) : Ev (fun k => spec_l20Begin.f k l a) (codeB l a) := by
  unfold spec_l20Begin.f codeB
  by_cases h : l.length > 4096
  · simp only [if_pos h, if_pos (show (l.length : Int) > 4096 by omega)]; exact ev_some _
  · simp only [if_neg h, if_neg (show ¬ (l.length : Int) > 4096 by omega)]
    refine ev_bind (spec_ev l hl) ?_
    by_cases hb : stopsB l = true
    · simp only [if_pos hb, ZStopsU.l01In_eq, Option.bind_some, decide_eq_true_eq]
      by_cases ha : 0 ≤ a ∧ a ≤ 100000
      · simp only [if_pos ha]; exact ev_some _
      · simp only [if_neg ha]; exact ev_some _
    · simp only [if_neg hb]; exact ev_some _
theorem code_impl (l : List S37) (a : Int) (hl : l.length ≤ maxLen) : Ev (fun k => impl_stopsCode.f k l a) (codeB l a) := by
  unfold impl_stopsCode.f codeB
  by_cases h : l.length > 4096
  · simp only [if_pos h, impl_Stop_174.f, Option.bind_some, decide_eq_true_eq, if_neg (show ¬ (l.length : Int) ≤ 4096 by omega)]; exact ev_some _
  · simp only [if_neg h, impl_Stop_174.f, Option.bind_some, decide_eq_true_eq, if_pos (show (l.length : Int) ≤ 4096 by omega)]
    refine ev_bind (impl_ev l hl) ?_
    by_cases hb : stopsB l = true
    · simp only [if_pos hb, ZStopsU.within_eq, Option.bind_some, decide_eq_true_eq]
      by_cases ha : 0 ≤ a ∧ a ≤ 100000
      · simp only [if_pos ha]; exact ev_some _
      · simp only [if_neg ha]; exact ev_some _
    · simp only [if_neg hb]; exact ev_some _
theorem code_zero {l : List S37} {a : Int} (h : codeB l a = 0) : ∀ p ∈ l, Right p := by
  unfold codeB at h
  split at h
  · omega
  · split at h
    · rename_i hb
      intro p hp
      unfold stopsB at hb
      simp only [Bool.and_eq_true, List.all_eq_true, decide_eq_true_eq] at hb
      exact hb.2 p hp
    · omega
theorem mx_le {a b c : Int} (h1 : a ≤ c) (h2 : b ≤ c) : mx a b ≤ c := by unfold mx; split <;> omega
theorem le_mx (a b : Int) : a ≤ mx a b ∧ b ≤ mx a b := by unfold mx; split <;> omega
/-- Where a stop lies. -/
def Near (p : S37) : Prop := (-1000 ≤ p.f0 ∧ p.f0 ≤ 1000) ∧ (-1000 ≤ p.f1 ∧ p.f1 ≤ 1000)
theorem near_of {p : S37} (h : Right p) : Near p := by unfold Right at h; exact ⟨h.1, h.2.1⟩
/-- The way between two stops. -/
def dist (p q : S37) : Int := mx (p.f0 - q.f0) (q.f0 - p.f0) + mx (p.f1 - q.f1) (q.f1 - p.f1)
theorem dist_bd {p q : S37} (hp : Near p) (hq : Near q) : 0 ≤ dist p q ∧ dist p q ≤ 4000 := by
  unfold Near at hp hq
  have h0 := mx_le (show p.f0 - q.f0 ≤ 2000 by omega) (show q.f0 - p.f0 ≤ 2000 by omega)
  have h1 := mx_le (show p.f1 - q.f1 ≤ 2000 by omega) (show q.f1 - p.f1 ≤ 2000 by omega)
  have g0 := le_mx (p.f0 - q.f0) (q.f0 - p.f0)
  have g1 := le_mx (p.f1 - q.f1) (q.f1 - p.f1)
  unfold dist
  omega
theorem dist_spec {p q : S37} (hp : Near p) (hq : Near q) : spec_l20Far.f p.f0 p.f1 p.f2 p.f3 p.f4 q.f0 q.f1 q.f2 q.f3 q.f4 = some (dist p q) := by
  have hd := dist_bd hp hq
  unfold Near at hp hq
  unfold spec_l20Far.f
  unfold dist at hd ⊢
  rw [w64 (x := p.f0 - q.f0) (by omega) (by omega), w64 (x := q.f0 - p.f0) (by omega) (by omega), w64 (x := p.f1 - q.f1) (by omega) (by omega), w64 (x := q.f1 - p.f1) (by omega) (by omega), w64 (by omega) (by omega)]
theorem dist_impl {p q : S37} (hp : Near p) (hq : Near q) : impl_away.f p.f0 p.f1 p.f2 p.f3 p.f4 q.f0 q.f1 q.f2 q.f3 q.f4 = some (dist p q) := by
  have hd := dist_bd hp hq
  unfold Near at hp hq
  unfold impl_away.f impl_sizeOf.f
  unfold dist at hd ⊢
  simp only [Option.bind_some]
  rw [w64 (x := p.f0 - q.f0) (by omega) (by omega), w64 (x := p.f1 - q.f1) (by omega) (by omega), w64 (x := -(p.f0 - q.f0)) (by omega) (by omega), w64 (x := -(p.f1 - q.f1)) (by omega) (by omega)]
  rw [show -(p.f0 - q.f0) = q.f0 - p.f0 by omega, show -(p.f1 - q.f1) = q.f1 - p.f1 by omega, w64 (by omega) (by omega)]
/-! ### the law's marks -/
def mkI : Int → List Int → List Int
  | _, [] => []
  | n, _ :: l => n :: mkI (n + 1) l
theorem mkI_len : ∀ (l : List Int) (n : Int), (mkI n l).length = l.length
  | [], _ => rfl
  | _ :: l, n => by simp [mkI, mkI_len l]
theorem markI_ev (l : List Int) (a : Int) (hl : l.length ≤ 1048576) (h0 : 0 ≤ a) (h1 : a ≤ 100000000) : Ev (fun k => laws_markIntS.f k l a) (a + (l.length : Int), mkI a l) := by
  unfold laws_markIntS.f
  have key : ∀ (out : List Int) (n : Int), out.length = l.length → n = a + ((0 : Nat) : Int) → Ev (fun k => laws_markIntS.l0 k out n ((0 : Nat) : Int)) (a + (l.length : Int), out.take 0 ++ mkI n (out.drop 0)) := by
    refine down (n := l.length) (P := fun i => ∀ (out : List Int) (n : Int), out.length = l.length → n = a + (i : Int) → Ev (fun k => laws_markIntS.l0 k out n (i : Int)) (a + (l.length : Int), out.take i ++ mkI n (out.drop i))) ?_ ?_ 0 (Nat.zero_le _)
    · intro out n ho hn
      refine ev_succ (fun k => ?_)
      simp only [laws_markIntS.l0]
      rw [if_neg (by omega), hn, ← ho, List.drop_length, List.take_length]
      simp [mkI]
    · intro i hi ih out n ho hn
      have hi2 : i < out.length := by omega
      have hw : wrap64 (n + 1) = n + 1 := w64 (by omega) (by omega)
      refine Ev.step (f := fun k => laws_markIntS.l0 k (out.set i n) (n + 1) ((i + 1 : Nat) : Int)) (fun k => ?_) (ev_eq (ih (out.set i n) (n + 1) (by rw [List.length_set]; exact ho) (by omega)) ?_)
      · simp only [laws_markIntS.l0, hw, Int.toNat_natCast]
        rw [if_pos (by omega), if_pos (ige _), wrap_succ (show i < l.length by omega) (by unfold maxLen; omega)]
      · rw [List.take_succ_eq_append_getElem (by rw [List.length_set]; omega), List.getElem_set_self, List.take_set, List.set_eq_of_length_le (by rw [List.length_take]; omega), List.append_assoc]
        rw [List.drop_eq_getElem_cons hi2, mkI, List.drop_set_of_lt (by omega)]
        rfl
  have := key l a rfl (by omega)
  simpa using this
theorem heldI_ev (l : List Int) (a : Int) (hl : l.length ≤ 1048576) (h0 : 0 ≤ a) (h1 : a ≤ 100000000) : Ev (fun k => laws_heldIntS.f k (mkI a l) a) (a + (l.length : Int)) := by
  unfold laws_heldIntS.f
  have hlen := mkI_len l a
  have key : ∀ (n : Int) (m : List Int), m.length = l.length - 0 → (mkI a l).drop 0 = mkI n m → n = a + ((0 : Nat) : Int) → Ev (fun k => laws_heldIntS.l0 k (mkI a l) n ((0 : Nat) : Int)) (a + (l.length : Int)) := by
    refine down (n := l.length) (P := fun i => ∀ (n : Int) (m : List Int), m.length = l.length - i → (mkI a l).drop i = mkI n m → n = a + (i : Int) → Ev (fun k => laws_heldIntS.l0 k (mkI a l) n (i : Int)) (a + (l.length : Int))) ?_ ?_ 0 (Nat.zero_le _)
    · intro n m _ _ hn
      refine ev_succ (fun k => ?_)
      simp only [laws_heldIntS.l0]
      rw [if_neg (by omega), hn]
    · intro i hi ih n m hm hd hn
      obtain ⟨y, m', rfl⟩ : ∃ y m', m = y :: m' := by
        cases m with
        | nil => simp at hm; omega
        | cons y m' => exact ⟨y, m', rfl⟩
      rw [mkI] at hd
      have h1' : (mkI a l)[i]? = some n := by
        have : ((mkI a l).drop i)[0]? = some n := by rw [hd]; rfl
        rw [List.getElem?_drop] at this
        simpa using this
      have hrd : rd (mkI a l) (i : Int) = n := getD_some h1'
      have hw : wrap64 (n + 1) = n + 1 := w64 (by omega) (by omega)
      refine Ev.step (fun k => ?_) (ih (n + 1) m' (by simp at hm; omega) (by rw [← List.drop_drop, hd]; rfl) (by omega))
      simp only [laws_heldIntS.l0, hrd, hw, if_true]
      rw [if_pos (by omega), if_pos (ige _), wrap_succ (show i < l.length by omega) (by unfold maxLen; omega)]
  exact key a l rfl rfl (by omega)
def st5 (out : List S37) (i : Int) (n : Int) : List S37 :=
  let y1 := out.set i.toNat ⟨n, (rd_T37 out i).f1, (rd_T37 out i).f2, (rd_T37 out i).f3, (rd_T37 out i).f4⟩
  let y2 := y1.set i.toNat ⟨(rd_T37 y1 i).f0, n + 1, (rd_T37 y1 i).f2, (rd_T37 y1 i).f3, (rd_T37 y1 i).f4⟩
  let y3 := y2.set i.toNat ⟨(rd_T37 y2 i).f0, (rd_T37 y2 i).f1, n + 1 + 1, (rd_T37 y2 i).f3, (rd_T37 y2 i).f4⟩
  let y4 := y3.set i.toNat ⟨(rd_T37 y3 i).f0, (rd_T37 y3 i).f1, (rd_T37 y3 i).f2, n + 1 + 1 + 1, (rd_T37 y3 i).f4⟩
  y4.set i.toNat ⟨(rd_T37 y4 i).f0, (rd_T37 y4 i).f1, (rd_T37 y4 i).f2, (rd_T37 y4 i).f3, n + 1 + 1 + 1 + 1⟩
theorem markS_ev (l : List S37) (hl : l.length ≤ 1048576) : ∃ w, Ev (fun k => laws_markStopS.f k l 1) (1 + 5 * (l.length : Int), w) := by
  unfold laws_markStopS.f
  have key : ∀ (out : List S37) (n : Int), out.length = l.length → n = 1 + 5 * ((0 : Nat) : Int) → ∃ w, Ev (fun k => laws_markStopS.l0 k out n ((0 : Nat) : Int)) (1 + 5 * (l.length : Int), w) := by
    refine down (n := l.length) (P := fun i => ∀ (out : List S37) (n : Int), out.length = l.length → n = 1 + 5 * (i : Int) → ∃ w, Ev (fun k => laws_markStopS.l0 k out n (i : Int)) (1 + 5 * (l.length : Int), w)) ?_ ?_ 0 (Nat.zero_le _)
    · intro out n ho hn
      refine ⟨out, ev_succ (fun k => ?_)⟩
      simp only [laws_markStopS.l0]
      rw [if_neg (by omega), hn]
    · intro i hi ih out n ho hn
      have hw1 : wrap64 (n + 1) = n + 1 := w64 (by omega) (by omega)
      have hw2 : wrap64 (n + 1 + 1) = n + 1 + 1 := w64 (by omega) (by omega)
      have hw3 : wrap64 (n + 1 + 1 + 1) = n + 1 + 1 + 1 := w64 (by omega) (by omega)
      have hw4 : wrap64 (n + 1 + 1 + 1 + 1) = n + 1 + 1 + 1 + 1 := w64 (by omega) (by omega)
      have hw5 : wrap64 (n + 1 + 1 + 1 + 1 + 1) = n + 1 + 1 + 1 + 1 + 1 := w64 (by omega) (by omega)
      have st : ∃ out', out'.length = l.length ∧ ∀ k, laws_markStopS.l0 (k + 1) out n (i : Int) = laws_markStopS.l0 k out' (n + 1 + 1 + 1 + 1 + 1) ((i + 1 : Nat) : Int) := by
        refine ⟨st5 out (i : Int) n, ?_, fun k => ?_⟩
        · unfold st5; simp only [List.length_set]; exact ho
        · simp only [laws_markStopS.l0, Option.bind_some, hw1, hw2, hw3, hw4, hw5]
          rw [if_pos (by omega), if_pos (ige _), wrap_succ (show i < l.length by omega) (by unfold maxLen; omega)]
          rfl
      obtain ⟨out', ho', hst⟩ := st
      obtain ⟨w, hE⟩ := ih out' (n + 1 + 1 + 1 + 1 + 1) ho' (by omega)
      exact ⟨w, Ev.step hst hE⟩
  exact key l 1 rfl (by omega)
/-! ### the law's work on a route -/
theorem eq_route (a b : List Int) (c d : Int) (ha : a.length ≤ maxLen) (hb : b.length ≤ maxLen) : Ev (fun k => laws_eqRoute.f k a b c d a b c d) true := by
  unfold laws_eqRoute.f
  exact ev_bind (ZIntsU.eq_ints a ha) (ev_pos rfl (ev_bind (ZIntsU.eq_ints b hb) (ev_pos rfl (ev_pos rfl (ev_pos rfl (ev_some _))))))
theorem mark_route (a b : List Int) (c d : Int) (ha : a.length ≤ 1048576) (hb : b.length ≤ 1048576) : Ev (fun k => laws_markRoute.f k a b c d 1) (1 + (a.length : Int) + (b.length : Int), mkI 1 a, mkI (1 + (a.length : Int)) b) := by
  unfold laws_markRoute.f
  exact ev_bind (markI_ev a 1 ha (by omega) (by omega)) (ev_bind (markI_ev b (1 + (a.length : Int)) hb (by omega) (by omega)) (ev_some _))
theorem held_route (a b : List Int) (c d : Int) (ha : a.length ≤ 1048576) (hb : b.length ≤ 1048576) : Ev (fun k => laws_heldRoute.f k (mkI 1 a) (mkI (1 + (a.length : Int)) b) c d 1) (1 + (a.length : Int) + (b.length : Int)) := by
  unfold laws_heldRoute.f
  exact ev_bind (heldI_ev a 1 ha (by omega) (by omega)) (ev_neg (by omega) (ev_bind (heldI_ev b (1 + (a.length : Int)) hb (by omega) (by omega)) (ev_neg (by omega) (ev_some _))))
end Go.Proofs.Ytgneodfkfbaoaaa.ZRoutesU
