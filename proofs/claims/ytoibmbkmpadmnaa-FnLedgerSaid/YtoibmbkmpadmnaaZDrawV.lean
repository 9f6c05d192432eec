/- The draws: what the reader's byte and next come to. -/
import Derived.Test.YtoibmbkmpadmnaaLib
import Derived.Test.YtoibmbkmpadmnaaSFnLedger
namespace Go.Proofs.Ytoibmbkmpadmnaa.ZDrawV
open Go.RowKit Go.Proofs.Ytoibmbkmpadmnaa.V Go.Proofs.Ytoibmbkmpadmnaa.Lib Go.Proofs.YtoibmbkmpadmnaaW.PrintWords Go.Proofs.YtoibmbkmpadmnaaW.PrintLast Go.Proofs.YtoibmbkmpadmnaaW.PrintMore

def St (c : Int) (a s : Int) : Prop := 0 ≤ a ∧ a ≤ c ∧ 0 ≤ s ∧ s < 2147483648
def Byt (l : List Int) : Prop := ∀ y ∈ l, 0 ≤ y ∧ y ≤ 255
theorem rd_code {l : List Int} (hl : Byt l) {v : Int} (h0 : 0 ≤ v) (h1 : v < (l.length : Int)) : 0 ≤ rd l v ∧ rd l v ≤ 255 := by
  obtain ⟨w, rfl⟩ := Int.eq_ofNat_of_zero_le h0
  have hw : w < l.length := by omega
  have : rd l (w : Int) = l[w] := getD_some (List.getElem?_eq_getElem hw)
  rw [this]; exact hl _ (List.getElem_mem hw)
theorem tmod_bd {x n : Int} (h : 0 ≤ x) (hn : 0 < n) : 0 ≤ Int.tmod x n ∧ Int.tmod x n < n := by
  rw [Int.tmod_eq_emod_of_nonneg h]
  exact ⟨Int.emod_nonneg _ (by omega), Int.emod_lt_of_pos _ hn⟩
theorem byte_ok {l : List Int} {c a s : Int} (hl : Byt l) (h : St c a s) (hc : c ≤ 1000000) : ∃ b a' s', spec_l00Src_byte.f l a s = some (b, a', s') ∧ 0 ≤ b ∧ b ≤ 255 ∧ St (c + 1) a' s' := by
  obtain ⟨h1, h2, h3, h4⟩ := h
  have hw : wrap64 (a + 1) = a + 1 := w64 (by omega) (by omega)
  have hw2 : wrap64 (a + 1 - 1) = a := by rw [w64 (by omega) (by omega)]; omega
  unfold spec_l00Src_byte.f
  rw [hw, hw2]
  by_cases c1 : a + 1 ≤ (l.length : Int)
  · have hb := rd_code hl h1 (by omega)
    rw [if_pos c1, if_pos h1, if_pos (by omega)]
    have e1 : wrap64 (rd l a) = rd l a := w64 (by omega) (by omega)
    have e2 : wrap64 (s * 31) = s * 31 := w64 (by omega) (by omega)
    rw [e1, e2, w64 (x := s * 31 + rd l a) (by omega) (by omega), w64 (x := s * 31 + rd l a + 7) (by omega) (by omega)]
    have ht := tmod_bd (x := s * 31 + rd l a + 7) (n := 2147483648) (by omega) (by omega)
    exact ⟨_, _, _, rfl, hb.1, hb.2, by omega, by omega, ht.1, ht.2⟩
  · rw [if_neg c1]
    by_cases c2 : a + 1 > 3000
    · rw [if_pos c2]
      exact ⟨_, _, _, rfl, by omega, by omega, by omega, by omega, h3, h4⟩
    · rw [if_neg c2]
      have e1 : wrap64 (s * 1103515245) = s * 1103515245 := w64 (by omega) (by omega)
      rw [e1, w64 (x := s * 1103515245 + 12345) (by omega) (by omega)]
      have ht := tmod_bd (x := s * 1103515245 + 12345) (n := 2147483648) (by omega) (by omega)
      generalize Int.tmod (s * 1103515245 + 12345) 2147483648 = z at ht
      have hd : 0 ≤ Int.tdiv z 65536 ∧ Int.tdiv z 65536 ≤ z := by
        rw [Int.tdiv_eq_ediv_of_nonneg ht.1]
        omega
      rw [w64 (x := Int.tdiv z 65536) (by omega) (by omega)]
      have hm := tmod_bd (x := Int.tdiv z 65536) (n := 256) hd.1 (by omega)
      exact ⟨_, _, _, rfl, hm.1, by omega, by omega, by omega, ht.1, ht.2⟩
theorem next_ok {l : List Int} {c a s n : Int} (hl : Byt l) (h : St c a s) (hc : c ≤ 100000) (hn : n ≤ 16777216) : ∃ v a' s', spec_l00Src_next.f l a s n = some (v, a', s') ∧ 0 ≤ v ∧ (v < n ∨ v = 0) ∧ St (c + 3) a' s' := by
  unfold spec_l00Src_next.f
  have hst : ∀ {c' a' s' : Int}, St c' a' s' → c' ≤ c + 3 → St (c + 3) a' s' := fun g k => ⟨g.1, by have := g.2.1; omega, g.2.2⟩
  by_cases c1 : n ≤ 1
  · rw [if_pos c1]; exact ⟨_, _, _, rfl, by omega, .inr rfl, hst h (by omega)⟩
  · rw [if_neg c1]
    obtain ⟨b1, a1, s1, e1, p1, q1, i1⟩ := byte_ok hl h (by omega)
    by_cases c2 : n ≤ 256
    · rw [if_pos c2, e1]
      simp only [Option.bind_some]
      rw [if_neg (by omega)]
      have ht := tmod_bd (x := b1) (n := n) p1 (by omega)
      exact ⟨_, _, _, rfl, ht.1, .inl ht.2, hst i1 (by omega)⟩
    · rw [if_neg c2, e1]
      obtain ⟨b2, a2, s2, e2, p2, q2, i2⟩ := byte_ok hl i1 (by omega)
      obtain ⟨b3, a3, s3, e3, p3, q3, i3⟩ := byte_ok hl i2 (by omega)
      simp only [Option.bind_some, e2, e3]
      rw [if_neg (by omega), w64 (x := b1 * 65536) (by omega) (by omega), w64 (x := b2 * 256) (by omega) (by omega), w64 (x := b1 * 65536 + b2 * 256) (by omega) (by omega), w64 (x := b1 * 65536 + b2 * 256 + b3) (by omega) (by omega)]
      have ht := tmod_bd (x := b1 * 65536 + b2 * 256 + b3) (n := n) (by omega) (by omega)
      exact ⟨_, _, _, rfl, ht.1, .inl ht.2, hst i3 (by omega)⟩
theorem source_ok {l : List Int} : ∃ s, spec_l00Source.f l = some (l, 0, s) ∧ St 0 0 s := by
  refine ⟨_, rfl, by omega, by omega, ?_, ?_⟩
  · exact Int.emod_nonneg _ (by omega)
  · have := Int.emod_lt_of_pos (l.length : Int) (show (0 : Int) < 1000 by omega); omega
theorem size_ok (l : List Int) (a s n : Int) : ∃ v, spec_l00Src_size.f l a s n = some (v, a, s) ∧ v ≤ n ∧ (-9223372036854775808 ≤ v ∨ v = n) := by
  unfold spec_l00Src_size.f
  exact ⟨_, rfl, by unfold mn; split <;> omega, by unfold mn wrap64; split <;> omega⟩
end Go.Proofs.Ytoibmbkmpadmnaa.ZDrawV
