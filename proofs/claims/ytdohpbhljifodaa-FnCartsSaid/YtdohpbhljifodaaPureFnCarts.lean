/- The statement of FnCarts as plain Lean. -/
import Derived.Test.YtdohpbhljifodaaZCartID
import Derived.Test.YtdohpbhljifodaaZCaDrD
namespace Go.Proofs.Ytdohpbhljifodaa.Pure
open Go.RowKit Go.Proofs.Ytdohpbhljifodaa.D Go.Proofs.Ytdohpbhljifodaa.Lib Go.Proofs.Ytdohpbhljifodaa.ZDrawD Go.Proofs.Ytdohpbhljifodaa.ZCartsD Go.Proofs.Ytdohpbhljifodaa.ZCartID Go.Proofs.Ytdohpbhljifodaa.ZCaDrD Go.Proofs.YtdohpbhljifodaaW.PrintWords Go.Proofs.YtdohpbhljifodaaW.PrintLast Go.Proofs.YtdohpbhljifodaaW.PrintMore

theorem byt_of {l : List Int} (h : ∀ y0 ∈ l, (Lit.int .u8 y0).wf = true) : Byt l := by
  intro y hy
  have := h y hy
  unfold Lit.wf at this
  rw [Bool.and_eq_true] at this
  exact ⟨of_decide_eq_true this.1, of_decide_eq_true this.2⟩
theorem last_loop (N now f s : Int) (l : List H) (hl : l.length ≤ 1000) (I : InvH N now f s l) (hN : N ≤ 100000) : Ev (fun k => laws_FnCarts.l0 k N (wrap64 (f + s)) 0 now f s l) true := by
  have hn := tot_nonneg I.good
  have hf := I.free
  have hs := I.sold
  have ha := I.all
  have key : ∀ a : Int, 0 ≤ a → a + tot (l.drop 0) = N → GoodH (l.drop 0) → (∀ h ∈ l.drop 0, now < h.f2) → Ev (fun k => laws_FnCarts.l0 k N a ((0 : Nat) : Int) now f s l) true := by
    refine down_list l (P := fun i => ∀ a : Int, 0 ≤ a → a + tot (l.drop i) = N → GoodH (l.drop i) → (∀ h ∈ l.drop i, now < h.f2) → Ev (fun k => laws_FnCarts.l0 k N a (i : Int) now f s l) true) ?_ ?_
    · intro a _ h1 _ _
      rw [List.drop_length] at h1
      simp only [tot] at h1
      refine ev_succ (fun k => ?_)
      simp only [laws_FnCarts.l0]
      rw [if_neg (by omega), if_pos (by omega), if_pos (by omega), decide_eq_true (by omega)]
    · intro i x hx hd ih a h0 h1 hg hla
      have hi := some_lt hx
      have hr : rd_T36 l (i : Int) = x := getD_some hx
      rw [hd] at h1 hg hla
      simp only [tot] at h1
      have hgx := hg x List.mem_cons_self
      have hlx := hla x List.mem_cons_self
      have hg2 : GoodH (l.drop (i + 1)) := fun y hy => hg y (List.mem_cons_of_mem _ hy)
      have hn2 := tot_nonneg hg2
      have hw : wrap64 (a + x.f1) = a + x.f1 := w64 (by omega) (by omega)
      refine Ev.step (fun k => ?_) (ih (a + x.f1) (by omega) (by omega) hg2 (fun y hy => hla y (List.mem_cons_of_mem _ hy)))
      simp only [laws_FnCarts.l0, hr, hw]
      rw [if_pos (ilt hi), if_pos (ige _), if_neg (by omega), if_neg (by omega), wrap_succ hi (by unfold maxLen; omega)]
  have e : wrap64 (f + s) = f + s := w64 (by omega) (by omega)
  rw [e]
  exact key (f + s) (by omega) (by simpa using ha) (by simpa using I.good) (by simpa using I.later)
theorem FnCarts : laws_FnCarts.Pure := by
  intro l0 l1 hyp0 hyp1
  refine Ev.rounds ?_
  have hb0 := byt_of hyp0.2
  have hb1 := byt_of hyp1.2
  have htrue : Ev (fun k => laws_FnCarts.j0 k l0 l1 true) true := ev_succ (fun k => by rw [laws_FnCarts.j0, if_pos rfl])
  unfold laws_FnCarts.f
  by_cases h0 : (l0.length : Int) > 1048576
  · exact ev_pos h0 htrue
  refine ev_neg h0 ?_
  by_cases h1 : (l1.length : Int) > 1048576
  · rw [decide_eq_true h1]; exact htrue
  rw [decide_eq_false h1]
  obtain ⟨N, A, eC, hA, hN0, hN1⟩ := carts_ok (l := l0) hb0
  have hm : wrap64 ((A.length : Int) + 1) = (A.length : Int) + 1 := w64 (by omega) (by omega)
  obtain ⟨t, eT, t0, t1⟩ := at_ok hb1 (by omega) ((A.length : Int) + 1) (by omega)
  have t2 : t ≤ (A.length : Int) := by rcases t1 with t1 | t1 <;> omega
  obtain ⟨n, rfl⟩ := Int.eq_ofNat_of_zero_le t0
  have hn : n ≤ A.length := by omega
  have hlen : (A.take n).length = n := by rw [List.length_take]; omega
  have eI := cart_impl N (A.take n)
  have hR : cartB N (A.take n) = runB (A.take n) [] 0 N 0 [] := by
    unfold cartB
    rw [if_neg (by omega), if_neg (fun h => h ⟨by omega, by omega⟩), if_neg (by omega)]
  rw [hR] at eI
  obtain ⟨I, hd, hlast⟩ := run_inv (N := N) (by omega) (A.take n) [] 0 N 0 [] ⟨fun h hh => by simp at hh, fun h hh => by simp at hh, by omega, by omega, by simp [tot]⟩ (by omega) (by omega)
  obtain ⟨ho, hh⟩ := runB_len (A.take n) [] 0 N 0 []
  have hhl := (hh (fun h hh => by simp at hh)).2
  simp only [List.length_nil, Nat.zero_add] at ho hhl
  have hzero : n = 0 → (runB (A.take n) [] 0 N 0 []).2.2.1 = N := fun h => by subst h; rfl
  generalize runB (A.take n) [] 0 N 0 [] = R at eI I hd hlast ho hhl hzero
  obtain ⟨o, now, f, s, l, d⟩ := R
  dsimp only at I hd hlast ho hhl hzero
  subst hd
  have hend : Ev (fun k => laws_FnCarts.j1 k N false now f s l) true := Ev.step (fun k => by rw [laws_FnCarts.j1, if_neg (by decide)]) (last_loop N now f s l (by omega) I (by omega))
  refine Ev.step (f := fun k => (spec_CartsOf.f k l0).bind fun bt212 => ((laws_at.f l1 0 (wrap64 ((bt212.2.length : Int) + 1))).bind fun t216 => (if 0 ≤ t216 then (if t216 ≤ (bt212.2.length : Int) then ((impl_CartRun.f k bt212.1 (bt212.2.take (t216 : Int).toNat)).bind fun bt221 => (if bt221.2.2.2.2.2 = 0 then (if (bt221.1.length : Int) = t216 then (if t216 > 0 then (if 0 ≤ (wrap64 (t216 - 1)) then (if (wrap64 (t216 - 1)) < (bt221.1.length : Int) then (if ((rd_T34 bt221.1 (wrap64 (t216 - 1))).f1) = bt221.2.2.1 then (if t216 = 0 then (laws_FnCarts.j1 k bt212.1 (bt221.2.2.1 != bt212.1) bt221.2.1 bt221.2.2.1 bt221.2.2.2.1 bt221.2.2.2.2.1) else (laws_FnCarts.j1 k bt212.1 false bt221.2.1 bt221.2.2.1 bt221.2.2.2.1 bt221.2.2.2.2.1)) else (laws_FnCarts.j1 k bt212.1 true bt221.2.1 bt221.2.2.1 bt221.2.2.2.1 bt221.2.2.2.2.1)) else (none)) else (none)) else (if t216 = 0 then (laws_FnCarts.j1 k bt212.1 (bt221.2.2.1 != bt212.1) bt221.2.1 bt221.2.2.1 bt221.2.2.2.1 bt221.2.2.2.2.1) else (laws_FnCarts.j1 k bt212.1 false bt221.2.1 bt221.2.2.1 bt221.2.2.2.1 bt221.2.2.2.2.1))) else (laws_FnCarts.j1 k bt212.1 true bt221.2.1 bt221.2.2.1 bt221.2.2.2.1 bt221.2.2.2.2.1)) else (laws_FnCarts.j1 k bt212.1 true bt221.2.1 bt221.2.2.1 bt221.2.2.2.1 bt221.2.2.2.2.1))) else (none)) else (none)))) (fun k => by rw [laws_FnCarts.j0, if_neg (by decide)]) ?_
  refine ev_bind eC ?_
  dsimp only
  rw [hm, eT]
  simp only [Option.bind_some]
  refine ev_pos (by omega) (ev_pos (by omega) ?_)
  rw [Int.toNat_natCast]
  refine ev_bind eI ?_
  dsimp only
  refine ev_pos rfl (ev_pos (by omega) ?_)
  by_cases hp : (n : Int) > 0
  · refine ev_pos hp ?_
    have hw : wrap64 ((n : Int) - 1) = ((n - 1 : Nat) : Int) := by rw [w64 (by omega) (by omega)]; omega
    obtain ⟨pre, ob, eo, ef⟩ := hlast (.inr (fun h => by have := congrArg List.length h; rw [hlen] at this; simp at this; omega))
    have hob : rd_T34 o ((n - 1 : Nat) : Int) = ob := getD_some (by
      have hpl : pre.length = n - 1 := by have := congrArg List.length eo; rw [ho, hlen] at this; simp at this; omega
      rw [eo, ← hpl]
      simp)
    rw [hw]
    refine ev_pos (by omega) (ev_pos (by omega) (ev_pos (by rw [hob]; exact ef) (ev_neg (by omega) hend)))
  · refine ev_neg hp (ev_pos (by omega) ?_)
    rw [hzero (by omega), bne_self_eq_false]
    have := hend
    rw [hzero (by omega)] at this
    exact this
end Go.Proofs.Ytdohpbhljifodaa.Pure
