/- FnPower: of the powers that are drawn, what volts make with themselves has no second part and a first part that is not below 0, volts and amps exchanged turn the second part's sign, the program's answer is the reference's, and so is the bridge's; on condition that each code is a list of bytes. -/
import Derived.Test.YtdgaaoeicijemaaZDrawPV
import Derived.Test.YtdgaaoeicijemaaZPowXV
import Derived.Test.YtdgaaoeicijemaaSFnPower
namespace Go.Proofs.Ytdgaaoeicijemaa.Pure
open Go.RowKit Go.Proofs.Ytdgaaoeicijemaa.V Go.Proofs.Ytdgaaoeicijemaa.Lib Go.Proofs.Ytdgaaoeicijemaa.Flo Go.Proofs.Ytdgaaoeicijemaa.ZDrawV Go.Proofs.Ytdgaaoeicijemaa.ZDrawPV Go.Proofs.Ytdgaaoeicijemaa.ZPowsV Go.Proofs.Ytdgaaoeicijemaa.ZPowXV Go.Proofs.YtdgaaoeicijemaaW.PrintWords Go.Proofs.YtdgaaoeicijemaaW.PrintLast Go.Proofs.YtdgaaoeicijemaaW.PrintMore

theorem byt_of {l : List Int} (h : ∀ y0 ∈ l, (Lit.int .u8 y0).wf = true) : Byt l := by
  intro y hy
  have := h y hy
  unfold Lit.wf at this
  rw [Bool.and_eq_true] at this
  exact ⟨of_decide_eq_true this.1, of_decide_eq_true this.2⟩
theorem mn_nat (a b : Nat) : mn (a : Int) (b : Int) = ((min a b : Nat) : Int) := by unfold mn; split <;> omega
theorem FnPower : laws_FnPower.Pure := by
  intro l0 l1 ⟨hl, b0⟩ ⟨hm, b1⟩
  refine Ev.rounds ?_
  unfold laws_FnPower.f
  by_cases c0 : (l0.length : Int) > 1048576
  · exact ev_pos c0 (ev_succ (fun k => by simp [laws_FnPower.j0]))
  refine ev_neg c0 ?_
  by_cases c1 : (l1.length : Int) > 1048576
  · rw [decide_eq_true c1]
    exact ev_succ (fun k => by simp [laws_FnPower.j0])
  rw [decide_eq_false c1]
  obtain ⟨V, eV, lV, pV⟩ := powersOf_ok (byt_of b0)
  obtain ⟨A, eA, lA, pA⟩ := powersOf_ok (byt_of b1)
  obtain ⟨re, im, e1, po, z⟩ := pow_own lV pV
  have big : ∀ P : List Pw, P.length ≤ 5 → P.length ≤ maxLen := fun P h => by unfold maxLen; omega
  have hown := pow_impl V V (big V lV) (big V lV)
  rw [e1] at hown
  refine Ev.step (f := fun k => ((spec_PowersOf.f k l0).bind fun t222 => ((spec_PowersOf.f k l1).bind fun t225 => ((impl_PowerOf.f k t222 t222).bind fun bt228 => (if bt228.2.2 = 0 then (if (fNe .f64 bt228.2.1 0) = true then (laws_FnPower.j1 k t222 t225 (mn (t222.length : Int) (t225.length : Int)) true) else (laws_FnPower.j1 k t222 t225 (mn (t222.length : Int) (t225.length : Int)) (fLt .f64 bt228.1 0))) else (laws_FnPower.j1 k t222 t225 (mn (t222.length : Int) (t225.length : Int)) true)))))) (fun k => by rw [laws_FnPower.j0, if_neg (by decide)]) ?_
  refine ev_bind eV (ev_bind eA (ev_bind hown (ev_pos rfl (ev_neg (by rw [z_ne z]; decide) ?_))))
  show Ev (fun k => laws_FnPower.j1 k V A (mn (V.length : Int) (A.length : Int)) (fLt .f64 re 0)) true
  rw [po_lt po, mn_nat]
  generalize hn : min V.length A.length = n
  have hL : (V.take n).length = n := by rw [List.length_take]; omega
  have hM : (A.take n).length = n := by rw [List.length_take]; omega
  have pL : ∀ p ∈ V.take n, okP p = true := fun p hp => pV p (List.mem_of_mem_take hp)
  have pM : ∀ p ∈ A.take n, okP p = true := fun p hp => pA p (List.mem_of_mem_take hp)
  obtain ⟨re2, im2, im3, f1, f2, f3, f4, f5⟩ := pow_swap (l := V.take n) (m := A.take n) (by omega) (by omega) pL pM
  have g1 := pow_impl (V.take n) (A.take n) (big _ (by omega)) (big _ (by omega))
  have g2 := pow_impl (A.take n) (V.take n) (big _ (by omega)) (big _ (by omega))
  have g3 := pow_spec (V.take n) (A.take n) (big _ (by omega)) (big _ (by omega))
  rw [f1] at g1 g3
  rw [f2] at g2
  refine Ev.step (f := fun k => ((impl_PowerOf.f k (V.take n) (A.take n)).bind fun bt240 => ((impl_PowerOf.f k (A.take n) (V.take n)).bind fun bt252 => ((spec_PowerOf.f k (V.take n) (A.take n)).bind fun bt264 => (if bt240.2.2 = 0 then (if bt252.2.2 = 0 then (if (!(fEq .f64 bt240.1 bt264.1) || (!(fEq .f64 bt240.2.1 bt264.2.1))) = true then (laws_FnPower.j2 k V true) else (if (fNe .f64 bt240.1 bt252.1) = true then (laws_FnPower.j2 k V true) else (laws_FnPower.j2 k V (fNe .f64 bt240.2.1 (Op.negFloat .f64 bt252.2.1))))) else (laws_FnPower.j2 k V true)) else (laws_FnPower.j2 k V true)))))) (fun k => by rw [laws_FnPower.j1, if_neg (by decide), if_pos (ige _), if_pos (by omega), if_pos (by omega), Int.toNat_natCast]) ?_
  have s1 : fEq .f64 re2 re2 = true := eq_self f4
  have s2 : fEq .f64 im2 im2 = true := eq_self f5
  refine ev_bind g1 (ev_bind g2 (ev_bind g3 (ev_pos rfl (ev_pos rfl (ev_neg (by dsimp only; rw [s1, s2]; decide) (ev_neg (by dsimp only; rw [ne_not_eq, s1]; decide) ?_))))))
  show Ev (fun k => laws_FnPower.j2 k V (fNe .f64 im2 (Op.negFloat .f64 im3))) true
  rw [flip_ne f3]
  obtain ⟨n1, n2⟩ := bri_nn lV pV
  refine Ev.step (f := fun k => ((impl_Bridge.f k V).bind fun bt268 => ((spec_Bridge.f k V).bind fun bt272 => (if bt268.2.2 = bt272.2.2 then (some (fEq .f64 bt268.1 bt272.1 && (fEq .f64 bt268.2.1 bt272.2.1))) else (some false))))) (fun k => by rw [laws_FnPower.j2, if_neg (by decide)]) ?_
  refine ev_bind (bri_impl V (big V lV)) (ev_bind (bri_spec V (big V lV)) (ev_pos rfl (ev_eq (ev_some _) ?_)))
  have s3 : fEq .f64 (briB V).1 (briB V).1 = true := eq_self n1
  have s4 : fEq .f64 (briB V).2.1 (briB V).2.1 = true := eq_self n2
  rw [s3, s4]; rfl
end Go.Proofs.Ytdgaaoeicijemaa.Pure
