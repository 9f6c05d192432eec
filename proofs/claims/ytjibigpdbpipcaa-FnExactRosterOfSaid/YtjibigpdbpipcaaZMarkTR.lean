/- The law's marks: the texts' numbers; a list of whole numbers that is copied and marked. -/
import Derived.Test.YtjibigpdbpipcaaLib
import Derived.Test.YtjibigpdbpipcaaSFnExactRosterOf
namespace Go.Proofs.Ytjibigpdbpipcaa.ZMarkTR
open Go.RowKit Go.Proofs.Ytjibigpdbpipcaa.R Go.Proofs.Ytjibigpdbpipcaa.Lib Go.Proofs.YtjibigpdbpipcaaW.PrintWords Go.Proofs.YtjibigpdbpipcaaW.PrintLast Go.Proofs.YtjibigpdbpipcaaW.PrintMore
theorem to_ints (l : List Int) (hl : l.length ≤ 1048576) : Ev (fun k => laws_toIntS.f k l) l := by
  unfold laws_toIntS.f
  simp only [if_pos (ige _), Int.toNat_natCast, if_pos (show l.length ≤ 35184372088832 by omega)]
  refine ev_eq (to_ev l _ id (fun k out i => laws_toIntS.l0 k l out i) (by unfold maxLen; omega) (fun k out i x hx ho => ?_) (fun k out => ?_)) (List.map_id l)
  · have := some_lt hx
    have hr : rd l (i : Int) = x := getD_some hx
    simp only [laws_toIntS.l0, hr]
    rw [if_pos (ilt this), if_pos (ige _), if_pos (by omega)]; rfl
  · simp only [laws_toIntS.l0]
    rw [if_neg (by omega)]
theorem text_big (a : Int) (h : a ≤ 4398046511104) : ∃ t, Ev (fun k => laws_markText.f k a) t := by
  unfold laws_markText.f
  by_cases h0 : a ≤ 0
  · exact ⟨_, ev_pos h0 (ev_some _)⟩
  · have key : ∀ (n : Nat) (b : Int) (s : ByteArray), b ≤ (n : Int) → 0 ≤ b → (s.size : Int) + b ≤ 8796093022208 → ∃ t, Ev (fun k => laws_markText.l0 k b s) t := by
      intro n
      induction n with
      | zero =>
        intro b s h1 h2 h3
        refine ⟨(⟨#[109]⟩ : ByteArray) ++ s, ev_succ (fun k => ?_)⟩
        simp only [laws_markText.l0]
        rw [if_neg (by omega), if_pos (by omega)]
      | succ n ih =>
        intro b s h1 h2 h3
        by_cases hb : b > 0
        · have hd : wrap64 (Int.tdiv b 10) = b / 10 := by
            rw [Int.tdiv_eq_ediv_of_nonneg h2]
            exact w64 (by omega) (by omega)
          have hsz : (strOfNums [(wrap64 (48 + (Int.tmod b 10))) % 256]).size = 1 := rfl
          have hap : (strOfNums [(wrap64 (48 + (Int.tmod b 10))) % 256] ++ s).size = 1 + s.size := by rw [ByteArray.size_append, hsz]
          obtain ⟨t, hE⟩ := ih (b / 10) (strOfNums [(wrap64 (48 + (Int.tmod b 10))) % 256] ++ s) (by omega) (by omega) (by rw [hap]; omega)
          refine ⟨t, Ev.step (fun k => ?_) hE⟩
          rw [laws_markText.l0, if_pos hb, Option.bind_some, if_pos (by rw [hsz]; omega), hd]
        · refine ⟨(⟨#[109]⟩ : ByteArray) ++ s, ev_succ (fun k => ?_)⟩
          simp only [laws_markText.l0]
          rw [if_neg hb, if_pos (by omega)]
    obtain ⟨t, hE⟩ := key a.toNat a ⟨#[]⟩ (by omega) (by omega) (by show ((0 : Nat) : Int) + a ≤ _; omega)
    exact ⟨t, ev_neg h0 hE⟩
theorem mark_ints (l : List Int) (a : Int) (hl : l.length ≤ 1048576) (h0 : 0 ≤ a) (h1 : a ≤ 5000000000000) : ∃ w, Ev (fun k => laws_markIntS.f k l a) (a + (l.length : Int), w) := by
  unfold laws_markIntS.f
  have key := down (n := l.length) (P := fun i => ∀ (out : List Int) (n : Int), out.length = l.length → n = a + (i : Int) → ∃ w, Ev (fun k => laws_markIntS.l0 k out n (i : Int)) (a + (l.length : Int), w)) ?_ ?_ 0 (Nat.zero_le _)
  · exact key l a rfl (by omega)
  · intro out n ho hn
    refine ⟨out, ev_succ (fun k => ?_)⟩
    simp only [laws_markIntS.l0]
    rw [if_neg (by omega), hn]
  · intro i hi ih out n ho hn
    have w1 : wrap64 (n + 1) = n + 1 := w64 (by omega) (by omega)
    obtain ⟨w, hw⟩ := ih (out.set i n) (n + 1) (by rw [List.length_set]; exact ho) (by omega)
    refine ⟨w, Ev.step (fun k => ?_) hw⟩
    simp only [laws_markIntS.l0, w1, Int.toNat_natCast]
    rw [if_pos (by omega), if_pos (ige _), wrap_succ hi (by unfold maxLen; omega)]
end Go.Proofs.Ytjibigpdbpipcaa.ZMarkTR
