/- Carts: what an act, and a list of acts, come to, by the program and by the reference. -/
import Derived.Test.YtdohpbhljifodaaLib
import Derived.Test.YtdohpbhljifodaaSFnCarts
namespace Go.Proofs.Ytdohpbhljifodaa.ZCartsD
open Go.RowKit Go.Proofs.Ytdohpbhljifodaa.D Go.Proofs.Ytdohpbhljifodaa.Lib Go.Proofs.YtdohpbhljifodaaW.PrintWords Go.Proofs.YtdohpbhljifodaaW.PrintLast Go.Proofs.YtdohpbhljifodaaW.PrintMore

abbrev H := S36
abbrev Ac := S54
abbrev Ob := S34
theorem ev_if {α : Type} {c : Prop} [Decidable c] {f g : Nat → Option α} {a b : α} (h1 : c → Ev f a) (h2 : ¬ c → Ev g b) : Ev (fun n => if c then f n else g n) (if c then a else b) := by
  by_cases h : c
  · exact ev_eq (ev_pos h (h1 h)) (if_pos h).symm
  · exact ev_eq (ev_neg h (h2 h)) (if_neg h).symm
theorem in_impl (a b c : Int) : impl_within.f a b c = some (decide (b ≤ a ∧ a ≤ c)) := by
  unfold impl_within.f
  by_cases h : a ≥ b
  · rw [if_pos h]; exact sd_d ⟨fun h2 => ⟨h, h2⟩, fun h2 => h2.2⟩
  · rw [if_neg h]; exact sd_f (fun h2 => h h2.1)
def actB (now free sold : Int) (l : List H) (x : Ac) : Int × Int × Int × List H × Int :=
  if x.f0 = 1 then
    (if (1 ≤ x.f1 ∧ x.f1 ≤ 1000000) ∧ (1 ≤ x.f2 ∧ x.f2 ≤ 100000) ∧ (1 ≤ x.f3 ∧ x.f3 ≤ 10000) then
      (if free < x.f2 then (now, free, sold, l, 19) else (now, wrap64 (free - x.f2), sold, l ++ [⟨x.f1, x.f2, wrap64 (now + x.f3)⟩], 0))
    else (now, free, sold, l, 5))
  else if x.f0 = 2 ∨ x.f0 = 3 then
    (if x.f1 < 1 then (now, free, sold, l, 5)
    else if cartUnits x.f1 l = 0 then (now, free, sold, l, 8)
    else if x.f0 = 2 then (now, free, wrap64 (sold + cartUnits x.f1 l), cartLeft x.f1 l, 0)
    else (now, wrap64 (free + cartUnits x.f1 l), sold, cartLeft x.f1 l, 0))
  else if x.f0 = 4 then
    (if 0 ≤ x.f3 ∧ x.f3 ≤ 10000 then (wrap64 (now + x.f3), wrap64 (free + timeUnits (wrap64 (now + x.f3)) l), sold, timeLeft (wrap64 (now + x.f3)) l, 0)
    else (now, free, sold, l, 5))
  else (now, free, sold, l, 13)
def GoodH (l : List H) : Prop := ∀ h ∈ l, 1 ≤ h.f1 ∧ h.f1 ≤ 100000
theorem units_bound (p : H → Bool) : ∀ (l : List H) (s : Int), GoodH l → 0 ≤ s → s + 100000 * (l.length : Int) ≤ 1000000000 → s ≤ l.foldl (sumU p) s ∧ l.foldl (sumU p) s ≤ s + 100000 * (l.length : Int) ∧ (l.foldl (sumU p) s = s → ∀ h ∈ l, p h = false)
  | [], s, _, _, _ => ⟨Int.le_refl _, by simp, fun _ h hh => by simp at hh⟩
  | x :: l, s, hg, h0, h1 => by
    have hx := hg x List.mem_cons_self
    have hg2 : GoodH l := fun h hh => hg h (List.mem_cons_of_mem _ hh)
    rw [List.length_cons] at h1 ⊢
    push_cast at h1 ⊢
    rw [List.foldl_cons]
    cases hp : p x with
    | true =>
      have e : sumU p s x = s + x.f1 := by rw [sumU, hp]; exact w64 (by omega) (by omega)
      rw [e]
      obtain ⟨a, b, c⟩ := units_bound p l (s + x.f1) hg2 (by omega) (by omega)
      exact ⟨by omega, by omega, fun h => by omega⟩
    | false =>
      have e : sumU p s x = s := by rw [sumU, hp]; rfl
      rw [e]
      obtain ⟨a, b, c⟩ := units_bound p l s hg2 h0 (by omega)
      refine ⟨a, by omega, fun h y hy => ?_⟩
      rcases List.mem_cons.mp hy with rfl | hy
      · exact hp
      · exact c h y hy
theorem none_gone {cart : Int} {l : List H} (hg : GoodH l) (hl : l.length ≤ 1000) : (wrap64 ((l.length : Int) - ((cartLeft cart l).length : Int)) = 0 ↔ cartUnits cart l = 0) ∧ (cartUnits cart l = 0 → cartLeft cart l = l) := by
  have hle : (cartLeft cart l).length ≤ l.length := List.length_filter_le _ _
  obtain ⟨_, _, hz⟩ := units_bound (fun h => h.f0 == cart) l 0 hg (by omega) (by omega)
  have h1 : cartUnits cart l = 0 → cartLeft cart l = l := fun h => List.filter_eq_self.mpr (fun y hy => by rw [show (y.f0 == cart) = false from hz h y hy]; rfl)
  refine ⟨⟨fun h => ?_, fun h => ?_⟩, h1⟩
  · rw [w64 (by omega) (by omega)] at h
    have hlen : (cartLeft cart l).length = l.length := by omega
    have hall := List.length_filter_eq_length_iff.mp hlen
    obtain ⟨e1, _⟩ := firstP_filter (p := fun h : H => h.f0 == cart) (l := l) (s := 0) (by
      refine firstP_none (fun i hi => ?_)
      have := hall (l.getD i z36) (by rw [List.getD_eq_getElem?_getD, List.getElem?_eq_getElem hi]; exact List.getElem_mem hi)
      simpa using this)
    exact (firstP_filter (p := fun h : H => h.f0 == cart) (l := l) (s := 0) (by
      refine firstP_none (fun i hi => ?_)
      have := hall (l.getD i z36) (by rw [List.getD_eq_getElem?_getD, List.getElem?_eq_getElem hi]; exact List.getElem_mem hi)
      simpa using this)).2
  · rw [h1 h]
    rw [w64 (by omega) (by omega)]
    omega
abbrev rot (r : Int × Int × Int × List H × Int) : Int × Int × Int × Int × List H := (r.2.2.2.2, r.1, r.2.1, r.2.2.1, r.2.2.2.1)
theorem act_impl (now free sold : Int) (l : List H) (x : Ac) (hl : l.length ≤ 1000) (hg : GoodH l) : Ev (fun k => impl_Carts_do.f k now free sold l x.f0 x.f1 x.f2 x.f3) (rot (actB now free sold l x)) := by
  unfold impl_Carts_do.f actB
  by_cases h1 : x.f0 = 1
  · refine ev_pos h1 ?_
    rw [if_pos h1]
    unfold impl_Carts_hold.f
    have hbad : Ev (fun k => impl_Carts_hold.j0 k true now free sold l x.f0 x.f1 x.f2 x.f3) (5, now, free, sold, l) := ev_succ (fun k => by rw [impl_Carts_hold.j0, if_pos rfl])
    simp only [in_impl, Option.bind_some, decide_eq_true_eq]
    by_cases a1 : 1 ≤ x.f1 ∧ x.f1 ≤ 1000000
    · refine ev_pos a1 ?_
      by_cases a2 : 1 ≤ x.f2 ∧ x.f2 ≤ 100000
      · refine ev_pos a2 ?_
        by_cases a3 : 1 ≤ x.f3 ∧ x.f3 ≤ 10000
        · rw [if_pos ⟨a1, a2, a3⟩, decide_eq_true a3]
          refine ev_succ (fun k => ?_)
          rw [impl_Carts_hold.j0, Bool.not_true, if_neg (by decide)]
          by_cases a4 : free < x.f2
          · rw [if_pos a4, if_pos a4]
          · rw [if_neg a4, if_neg a4, if_pos (by omega)]
        · rw [if_neg (fun h => a3 h.2.2), decide_eq_false a3]
          exact hbad
      · rw [if_neg (fun h => a2 h.2.1)]
        exact ev_neg a2 hbad
    · rw [if_neg (fun h => a1 h.1)]
      exact ev_neg a1 hbad
  · refine ev_const (fun k => ?_)
    simp only [if_neg h1]
    by_cases h23 : x.f0 = 2 ∨ x.f0 = 3
    · simp only [if_pos h23]
      by_cases hc : x.f1 < 1
      · simp only [if_pos hc]
      · simp only [if_neg hc]
        obtain ⟨hn, hn2⟩ := none_gone (cart := x.f1) hg hl
        by_cases hz : cartUnits x.f1 l = 0
        · simp only [if_pos (hn.mpr hz), if_pos hz]
          simp only [hn2 hz]
        · simp only [if_neg (fun h => hz (hn.mp h)), if_neg hz]
          by_cases h2 : x.f0 = 2
          · simp only [if_pos h2]
          · simp only [if_neg h2]
    · simp only [if_neg h23]
      by_cases h4 : x.f0 = 4
      · simp only [if_pos h4, in_impl, Option.bind_some, decide_eq_true_eq]
        by_cases h5 : 0 ≤ x.f3 ∧ x.f3 ≤ 10000
        · simp only [if_pos h5]
        · simp only [if_neg h5]
      · simp only [if_neg h4]
theorem good_act {now free sold : Int} {l : List H} (x : Ac) (hg : GoodH l) : GoodH (actB now free sold l x).2.2.2.1 ∧ (actB now free sold l x).2.2.2.1.length ≤ l.length + 1 := by
  have hf : ∀ q : H → Bool, GoodH (l.filter q) ∧ (l.filter q).length ≤ l.length + 1 := fun q => ⟨fun h hh => hg h ((List.mem_filter.mp hh).1), by have := List.length_filter_le q l; omega⟩
  unfold actB
  split
  · split
    · rename_i hh
      split
      · exact ⟨hg, by dsimp only; omega⟩
      · refine ⟨fun h hm => ?_, by simp⟩
        rcases List.mem_append.mp hm with hm | hm
        · exact hg h hm
        · rw [List.mem_singleton.mp hm]; exact hh.2.1
    · exact ⟨hg, by dsimp only; omega⟩
  · split
    · split
      · exact ⟨hg, by dsimp only; omega⟩
      · split
        · exact ⟨hg, by dsimp only; omega⟩
        · split
          · exact hf _
          · exact hf _
    · split
      · split
        · exact hf _
        · exact ⟨hg, by dsimp only; omega⟩
      · exact ⟨hg, by dsimp only; omega⟩
def runB : List Ac → List Ob → Int → Int → Int → List H → (List Ob × Int × Int × Int × List H × Int)
  | [], out, n, f, s, l => (out, n, f, s, l, 0)
  | x :: xs, out, n, f, s, l => runB xs (out ++ [⟨(actB n f s l x).2.2.2.2, (actB n f s l x).2.1⟩]) (actB n f s l x).1 (actB n f s l x).2.1 (actB n f s l x).2.2.1 (actB n f s l x).2.2.2.1
theorem runB_len : ∀ (L : List Ac) (out : List Ob) (n f s : Int) (l : List H), (runB L out n f s l).1.length = out.length + L.length ∧ (GoodH l → GoodH (runB L out n f s l).2.2.2.2.1 ∧ (runB L out n f s l).2.2.2.2.1.length ≤ l.length + L.length)
  | [], out, n, f, s, l => ⟨by simp [runB], fun h => ⟨h, by simp [runB]⟩⟩
  | x :: xs, out, n, f, s, l => by
    obtain ⟨h1, h2⟩ := runB_len xs (out ++ [⟨(actB n f s l x).2.2.2.2, (actB n f s l x).2.1⟩]) (actB n f s l x).1 (actB n f s l x).2.1 (actB n f s l x).2.2.1 (actB n f s l x).2.2.2.1
    refine ⟨by rw [runB, h1]; simp; omega, fun hg => ?_⟩
    obtain ⟨g1, g2⟩ := good_act (now := n) (free := f) (sold := s) x hg
    obtain ⟨h3, h4⟩ := h2 g1
    refine ⟨by rw [runB]; exact h3, by rw [runB, List.length_cons]; omega⟩
theorem run_impl (L : List Ac) (hL : L.length ≤ 200) (a0 : Int) : Ev (fun k => impl_CartRun.l0 k [] L (L.length : Int) 0 0 a0 0 []) (runB L [] 0 a0 0 []) := by
  have key : ∀ (out : List Ob) (n f s : Int) (l : List H), out.length = 0 → l.length ≤ 0 → GoodH l → Ev (fun k => impl_CartRun.l0 k out L (L.length : Int) ((0 : Nat) : Int) n f s l) (runB (L.drop 0) out n f s l) := by
    refine down_list L (P := fun i => ∀ (out : List Ob) (n f s : Int) (l : List H), out.length = i → l.length ≤ i → GoodH l → Ev (fun k => impl_CartRun.l0 k out L (L.length : Int) (i : Int) n f s l) (runB (L.drop i) out n f s l)) ?_ ?_
    · intro out n f s l _ _ _
      refine ev_succ (fun k => ?_)
      simp only [impl_CartRun.l0]
      rw [if_neg (by omega), List.drop_length]
      rfl
    · intro i x hx hd ih out n f s l ho hl hg
      have hi := some_lt hx
      have hr : rd_T54 L (i : Int) = x := getD_some hx
      have hw := wrap_succ hi (show L.length ≤ maxLen by unfold maxLen; omega)
      obtain ⟨g1, g2⟩ := good_act (now := n) (free := f) (sold := s) x hg
      rw [hd, runB]
      refine Ev.step (f := fun k => (impl_Carts_do.f k n f s l x.f0 x.f1 x.f2 x.f3).bind fun bt => impl_CartRun.l0 k (out ++ [⟨bt.1, bt.2.2.1⟩]) L (L.length : Int) ((i + 1 : Nat) : Int) bt.2.1 bt.2.2.1 bt.2.2.2.1 bt.2.2.2.2) (fun k => ?_) (ev_bind (act_impl n f s l x (by omega) hg) (ih _ _ _ _ _ (by simp; omega) (by omega) g1))
      simp only [impl_CartRun.l0, hr, hw]
      rw [if_pos (ilt hi), if_pos (ige _), if_pos (ilt hi)]
      simp only [if_pos (show out.length < 8796093022208 by omega)]
  exact key [] 0 a0 0 [] rfl (by simp) (fun h hh => by simp at hh)
def cartB (a0 : Int) (L : List Ac) : List Ob × Int × Int × Int × List H × Int :=
  if (L.length : Int) > 4096 then ([], 0, 0, 0, [], 2)
  else if ¬ (0 ≤ a0 ∧ a0 ≤ 100000) then ([], 0, 0, 0, [], 5)
  else if (L.length : Int) > 200 then ([], 0, 0, 0, [], 9) else runB L [] 0 a0 0 []
theorem cart_impl (a0 : Int) (L : List Ac) : Ev (fun k => impl_CartRun.f k a0 L) (cartB a0 L) := by
  unfold impl_CartRun.f cartB
  simp only [in_impl, impl_CartAct.f, Option.bind_some, decide_eq_true_eq]
  by_cases hb : (L.length : Int) > 4096
  · rw [if_pos hb]; exact ev_neg (by omega) (ev_some _)
  · rw [if_neg hb]
    refine ev_pos (by omega) ?_
    by_cases h : 0 ≤ a0 ∧ a0 ≤ 100000
    · rw [if_neg (fun h2 => h2 h)]
      exact ev_pos h (ev_if (fun _ => ev_some _) (fun h2 => run_impl L (by omega) a0))
    · rw [if_pos h]; exact ev_neg h (ev_some _)
end Go.Proofs.Ytdohpbhljifodaa.ZCartsD
