/- The law's marks: the texts' numbers. -/
import Derived.Test.YtoibmbkmpadmnaaLib
import Derived.Test.YtoibmbkmpadmnaaSFnExactLedgerOf
namespace Go.Proofs.Ytoibmbkmpadmnaa.ZMarkUG
open Go.RowKit Go.Proofs.Ytoibmbkmpadmnaa.G Go.Proofs.Ytoibmbkmpadmnaa.Lib Go.Proofs.YtoibmbkmpadmnaaW.PrintWords Go.Proofs.YtoibmbkmpadmnaaW.PrintLast Go.Proofs.YtoibmbkmpadmnaaW.PrintMore
theorem text_big (a : Int) (h : a ≤ 4398046511104) : ∃ t, Ev (fun k => laws_markText.f k a) t := by
  unfold laws_markText.f
  by_cases h0 : a ≤ 0
  · exact ⟨_, ev_pos h0 (ev_some _)⟩
  · have key : ∀ (n : Nat) (b : Int) (s : ByteArray), b ≤ (n : Int) → 0 ≤ b → (s.size : Int) + b ≤ 8796093022208 → ∃ t, Ev (fun k => laws_markText.l0 k b s) t := by
      intro n
      induction n with
      | zero =>
        intro b s h1 h2 h3
        refine ⟨(⟨#[109]⟩ : ByteArray) ++ s, ev_succ (fun k => ?_)⟩
        simp only [laws_markText.l0]
        rw [if_neg (by omega), if_pos (by omega)]
      | succ n ih =>
        intro b s h1 h2 h3
        by_cases hb : b > 0
        · have hd : wrap64 (Int.tdiv b 10) = b / 10 := by
            rw [Int.tdiv_eq_ediv_of_nonneg h2]
            exact w64 (by omega) (by omega)
          have hsz : (strOfNums [(wrap64 (48 + (Int.tmod b 10))) % 256]).size = 1 := rfl
          have hap : (strOfNums [(wrap64 (48 + (Int.tmod b 10))) % 256] ++ s).size = 1 + s.size := by rw [ByteArray.size_append, hsz]
          obtain ⟨t, hE⟩ := ih (b / 10) (strOfNums [(wrap64 (48 + (Int.tmod b 10))) % 256] ++ s) (by omega) (by omega) (by rw [hap]; omega)
          refine ⟨t, Ev.step (fun k => ?_) hE⟩
          rw [laws_markText.l0, if_pos hb, Option.bind_some, if_pos (by rw [hsz]; omega), hd]
        · refine ⟨(⟨#[109]⟩ : ByteArray) ++ s, ev_succ (fun k => ?_)⟩
          simp only [laws_markText.l0]
          rw [if_neg hb, if_pos (by omega)]
    obtain ⟨t, hE⟩ := key a.toNat a ⟨#[]⟩ (by omega) (by omega) (by show ((0 : Nat) : Int) + a ≤ _; omega)
    exact ⟨t, ev_neg h0 hE⟩
end Go.Proofs.Ytoibmbkmpadmnaa.ZMarkUG
