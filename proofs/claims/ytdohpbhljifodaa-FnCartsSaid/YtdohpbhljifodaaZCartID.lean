/- Carts: all units are free, held or sold at each act, and no hold that is left is over. -/
import Derived.Test.YtdohpbhljifodaaZCartsD
namespace Go.Proofs.Ytdohpbhljifodaa.ZCartID
open Go.RowKit Go.Proofs.Ytdohpbhljifodaa.D Go.Proofs.Ytdohpbhljifodaa.Lib Go.Proofs.Ytdohpbhljifodaa.ZCartsD Go.Proofs.YtdohpbhljifodaaW.PrintWords Go.Proofs.YtdohpbhljifodaaW.PrintLast Go.Proofs.YtdohpbhljifodaaW.PrintMore

def tot : List H → Int
  | [] => 0
  | h :: l => h.f1 + tot l
theorem tot_append : ∀ (a b : List H), tot (a ++ b) = tot a + tot b
  | [], b => by simp [tot]
  | h :: a, b => by simp [tot, tot_append a b]; omega
theorem tot_split (p : H → Bool) : ∀ l : List H, tot l = tot (l.filter p) + tot (l.filter fun h => !p h)
  | [] => rfl
  | h :: l => by
    have := tot_split p l
    cases hp : p h with
    | true => simp [hp, tot]; omega
    | false => simp [hp, tot]; omega
theorem tot_nonneg : ∀ {l : List H}, GoodH l → 0 ≤ tot l
  | [], _ => Int.le_refl _
  | h :: l, hg => by
    have h1 := hg h List.mem_cons_self
    have h2 := tot_nonneg (l := l) (fun x hx => hg x (List.mem_cons_of_mem _ hx))
    simp only [tot]; omega
theorem good_filter {l : List H} (hg : GoodH l) (q : H → Bool) : GoodH (l.filter q) := fun h hh => hg h (List.mem_filter.mp hh).1
theorem units_tot (p : H → Bool) : ∀ (l : List H) (s : Int), GoodH l → 0 ≤ s → s + tot l ≤ 1000000000 → l.foldl (sumU p) s = s + tot (l.filter p)
  | [], s, _, _, _ => by simp [tot]
  | h :: l, s, hg, h0, h1 => by
    have hx := hg h List.mem_cons_self
    have hg2 : GoodH l := fun x hx => hg x (List.mem_cons_of_mem _ hx)
    have hn := tot_nonneg hg2
    simp only [tot] at h1
    rw [List.foldl_cons]
    cases hp : p h with
    | true =>
      have e : sumU p s h = s + h.f1 := by rw [sumU, hp]; exact w64 (by omega) (by omega)
      rw [e, units_tot p l _ hg2 (by omega) (by omega)]
      simp [hp, tot]; omega
    | false =>
      have e : sumU p s h = s := by rw [sumU, hp]; rfl
      rw [e, units_tot p l s hg2 h0 (by omega)]
      simp [hp]
structure InvH (N now f s : Int) (l : List H) : Prop where
  good : GoodH l
  later : ∀ h ∈ l, now < h.f2
  free : 0 ≤ f
  sold : 0 ≤ s
  all : f + s + tot l = N
theorem act_inv {N now f s : Int} {l : List H} (x : Ac) (I : InvH N now f s l) (hN : N ≤ 100000) (h0 : 0 ≤ now) (h1 : now ≤ 5000000) :
    InvH N (actB now f s l x).1 (actB now f s l x).2.1 (actB now f s l x).2.2.1 (actB now f s l x).2.2.2.1 ∧ now ≤ (actB now f s l x).1 ∧ (actB now f s l x).1 ≤ now + 10000 := by
  have hn := tot_nonneg I.good
  have hf := I.free
  have hs := I.sold
  have ha := I.all
  have same : InvH N now f s l ∧ now ≤ now ∧ now ≤ now + 10000 := ⟨I, by omega, by omega⟩
  unfold actB
  split
  · split
    · rename_i hh
      split
      · exact same
      · rename_i hlt
        have e1 : wrap64 (f - x.f2) = f - x.f2 := w64 (by omega) (by omega)
        have e2 : wrap64 (now + x.f3) = now + x.f3 := w64 (by omega) (by omega)
        refine ⟨⟨?_, ?_, ?_, hs, ?_⟩, by dsimp only; omega, by dsimp only; omega⟩
        · intro h hm
          rcases List.mem_append.mp hm with hm | hm
          · exact I.good h hm
          · rw [List.mem_singleton.mp hm]; exact hh.2.1
        · intro h hm
          dsimp only at hm ⊢
          rcases List.mem_append.mp hm with hm | hm
          · exact I.later h hm
          · rw [List.mem_singleton.mp hm]
            show now < wrap64 (now + x.f3)
            rw [e2]; omega
        · dsimp only; rw [e1]; omega
        · dsimp only; rw [e1, tot_append]; simp only [tot]; omega
    · exact same
  · split
    · split
      · exact same
      · split
        · exact same
        · have hsp := tot_split (fun h : H => h.f0 == x.f1) l
          have hg1 := tot_nonneg (good_filter I.good (fun h : H => h.f0 == x.f1))
          have hg2 := tot_nonneg (good_filter I.good (fun h : H => !(h.f0 == x.f1)))
          have hu : cartUnits x.f1 l = tot (l.filter fun h : H => h.f0 == x.f1) := by
            have := units_tot (fun h : H => h.f0 == x.f1) l 0 I.good (by omega) (by omega)
            rw [show cartUnits x.f1 l = l.foldl (sumU fun h : H => h.f0 == x.f1) 0 from rfl, this]; omega
          have hr : cartLeft x.f1 l = l.filter (fun h : H => !(h.f0 == x.f1)) := rfl
          split
          · have e1 : wrap64 (s + cartUnits x.f1 l) = s + cartUnits x.f1 l := w64 (by omega) (by omega)
            refine ⟨⟨?_, ?_, hf, ?_, ?_⟩, by dsimp only; omega, by dsimp only; omega⟩
            · dsimp only; rw [hr]; exact good_filter I.good _
            · dsimp only; rw [hr]; exact fun h hm => I.later h (List.mem_filter.mp hm).1
            · dsimp only; rw [e1]; omega
            · dsimp only; rw [e1, hr]; omega
          · have e1 : wrap64 (f + cartUnits x.f1 l) = f + cartUnits x.f1 l := w64 (by omega) (by omega)
            refine ⟨⟨?_, ?_, ?_, hs, ?_⟩, by dsimp only; omega, by dsimp only; omega⟩
            · dsimp only; rw [hr]; exact good_filter I.good _
            · dsimp only; rw [hr]; exact fun h hm => I.later h (List.mem_filter.mp hm).1
            · dsimp only; rw [e1]; omega
            · dsimp only; rw [e1, hr]; omega
    · split
      · split
        · rename_i h5
          have e2 : wrap64 (now + x.f3) = now + x.f3 := w64 (by omega) (by omega)
          rw [e2]
          obtain ⟨t, ht⟩ : ∃ t, t = now + x.f3 := ⟨_, rfl⟩
          rw [← ht]
          have hsp := tot_split (fun h : H => decide (h.f2 ≤ t)) l
          have hg1 := tot_nonneg (good_filter I.good (fun h : H => decide (h.f2 ≤ t)))
          have hg2 := tot_nonneg (good_filter I.good (fun h : H => !(decide (h.f2 ≤ t))))
          have hu : timeUnits t l = tot (l.filter fun h : H => decide (h.f2 ≤ t)) := by
            have := units_tot (fun h : H => decide (h.f2 ≤ t)) l 0 I.good (by omega) (by omega)
            rw [show timeUnits t l = l.foldl (sumU fun h : H => decide (h.f2 ≤ t)) 0 from rfl, this]; omega
          have hr : timeLeft t l = l.filter (fun h : H => !(decide (h.f2 ≤ t))) := rfl
          have e1 : wrap64 (f + timeUnits t l) = f + timeUnits t l := w64 (by omega) (by omega)
          have hT : now ≤ t ∧ t ≤ now + 10000 := ⟨by omega, by omega⟩
          refine ⟨⟨?_, ?_, ?_, hs, ?_⟩, hT.1, hT.2⟩
          · dsimp only; rw [hr]; exact good_filter I.good _
          · dsimp only; rw [hr]
            intro h hm
            have := (List.mem_filter.mp hm).2
            simp at this
            omega
          · dsimp only; rw [e1]; omega
          · dsimp only; rw [e1, hr]; omega
        · exact same
      · exact same
theorem run_inv {N : Int} (hN : N ≤ 100000) : ∀ (L : List Ac) (out : List Ob) (now f s : Int) (l : List H), InvH N now f s l → 0 ≤ now → now + 10000 * (L.length : Int) ≤ 5000000 →
    InvH N (runB L out now f s l).2.1 (runB L out now f s l).2.2.1 (runB L out now f s l).2.2.2.1 (runB L out now f s l).2.2.2.2.1 ∧ (runB L out now f s l).2.2.2.2.2 = 0 ∧
    (((∃ pre o, out = pre ++ [o] ∧ o.f1 = f) ∨ L ≠ []) → ∃ pre o, (runB L out now f s l).1 = pre ++ [o] ∧ o.f1 = (runB L out now f s l).2.2.1)
  | [], out, now, f, s, l, I, _, _ => ⟨I, rfl, fun h => by
    rcases h with h | h
    · exact h
    · exact absurd rfl h⟩
  | x :: xs, out, now, f, s, l, I, h0, h1 => by
    rw [List.length_cons] at h1
    push_cast at h1
    obtain ⟨I2, a, b⟩ := act_inv x I hN h0 (by omega)
    obtain ⟨r1, r2, r3⟩ := run_inv hN xs (out ++ [⟨(actB now f s l x).2.2.2.2, (actB now f s l x).2.1⟩]) _ _ _ _ I2 (by omega) (by omega)
    exact ⟨r1, r2, fun _ => r3 (.inl ⟨_, _, rfl, rfl⟩)⟩
end Go.Proofs.Ytdohpbhljifodaa.ZCartID
