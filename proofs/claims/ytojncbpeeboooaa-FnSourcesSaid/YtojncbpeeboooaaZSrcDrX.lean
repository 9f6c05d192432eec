/- The drawn sources are right ones. -/
import Derived.Test.YtojncbpeeboooaaZDrawNX
import Derived.Test.YtojncbpeeboooaaZSourcesX
namespace Go.Proofs.Ytojncbpeeboooaa.ZSrcDrX
open Go.RowKit Go.Proofs.Ytojncbpeeboooaa.X Go.Proofs.Ytojncbpeeboooaa.Lib Go.Proofs.Ytojncbpeeboooaa.ZNameX Go.Proofs.Ytojncbpeeboooaa.ZDrawNX Go.Proofs.Ytojncbpeeboooaa.ZSourcesX Go.Proofs.YtojncbpeeboooaaW.PrintWords Go.Proofs.YtojncbpeeboooaaW.PrintLast Go.Proofs.YtojncbpeeboooaaW.PrintMore
theorem ev_one {α : Type} {g : Nat → Option α} {a b : α} (h1 : Ev g a) (h2 : Ev g b) : a = b := by
  obtain ⟨n, h1⟩ := h1
  obtain ⟨m, h2⟩ := h2
  have e1 := h1 (n + m) (by omega)
  have e2 := h2 (n + m) (by omega)
  rw [e1] at e2
  exact Option.some.inj e2
theorem name_of {a : ByteArray} (h : spec_NameOK.f 60 a = some true) : nameB a = true := ev_one (name_spec a) (Ev.of (spec_NameOK.mono a) h)
theorem loop_eq (bs : ByteArray) : ∀ (n i : Nat) (r : List UInt8), bs.size - i = n → ByteArray.toList.loop bs i r = r.reverse ++ bs.data.toList.drop i := by
  intro n
  induction n with
  | zero =>
    intro i r h
    have hl : bs.data.toList.length = bs.size := rfl
    unfold ByteArray.toList.loop
    rw [if_neg (by omega), List.drop_eq_nil_of_le (by omega), List.append_nil]
  | succ n ih =>
    intro i r h
    have hl : bs.data.toList.length = bs.size := rfl
    have hi : i < bs.data.toList.length := by omega
    unfold ByteArray.toList.loop
    rw [if_pos (by omega), ih (i + 1) _ (by omega), List.reverse_cons, List.append_assoc, List.drop_eq_getElem_cons hi]
    have e : bs.get! i = bs.data.toList[i] := by
      show bs.data[i]! = _
      rw [getElem!_pos bs.data i hi]
      simp
    rw [← e]
    rfl
theorem tl (a : ByteArray) : a.toList = a.data.toList := by
  unfold ByteArray.toList
  rw [loop_eq a _ 0 [] rfl]
  rfl
theorem ne_of {a b : ByteArray} (h : a.data.toList ≠ b.data.toList) : eqS a b = false := by
  unfold eqS
  rw [tl, tl]
  exact decide_eq_false h
def sns : List ByteArray := [(⟨#[109, 105, 108, 107]⟩ : ByteArray), (⟨#[98, 114, 111, 116]⟩ : ByteArray), (⟨#[107, 195, 164, 115, 101]⟩ : ByteArray), (⟨#[120]⟩ : ByteArray), (⟨#[121, 95, 50]⟩ : ByteArray)]
def sn (j : Nat) : ByteArray := rdOf ByteArray.empty sns (j : Int)
theorem sn_ok : ∀ j, j < 5 → nameB (sn j) = true
  | 0, _ => name_of (by kernel_rfl)
  | 1, _ => name_of (by kernel_rfl)
  | 2, _ => name_of (by kernel_rfl)
  | 3, _ => name_of (by kernel_rfl)
  | 4, _ => name_of (by kernel_rfl)
  | n + 5, h => by omega
theorem sn_ne {i j : Nat} (hi : i < 5) (hj : j < 5) (h : i ≠ j) : eqS (sn i) (sn j) = false := by
  have key : ∀ i, i < 5 → ∀ j, j < 5 → i ≠ j → (sn i).data.toList ≠ (sn j).data.toList := by decide
  exact ne_of (key i hi j hj h)
def dig (j : Nat) : ByteArray := (⟨#[115]⟩ : ByteArray) ++ strOfNums (([(wrap64 (48 + (j : Int))) % 256] : List Int))
theorem dig_ok : ∀ j, j < 4 → nameB (dig j) = true
  | 0, _ => name_of (by kernel_rfl)
  | 1, _ => name_of (by kernel_rfl)
  | 2, _ => name_of (by kernel_rfl)
  | 3, _ => name_of (by kernel_rfl)
  | n + 4, h => by omega
theorem dig_data : ∀ j, j < 4 → (dig j).data.toList = [115, UInt8.ofNat (48 + j)]
  | 0, _ => by kernel_rfl
  | 1, _ => by kernel_rfl
  | 2, _ => by kernel_rfl
  | 3, _ => by kernel_rfl
  | n + 4, h => by omega
theorem dig_ne {i j : Nat} (hi : i < 4) (hj : j < 4) (h : i ≠ j) : eqS (dig i) (dig j) = false := by
  have key : ∀ i, i < 4 → ∀ j, j < 4 → i ≠ j → ([115, UInt8.ofNat (48 + i)] : List UInt8) ≠ [115, UInt8.ofNat (48 + j)] := by decide
  exact ne_of (by rw [dig_data i hi, dig_data j hj]; exact key i hi j hj h)
def more : ByteArray := ⟨#[109, 111, 114, 101]⟩
theorem more_ok : nameB more = true := name_of (by kernel_rfl)
theorem more_ne {j : Nat} (hj : j < 4) : eqS more (dig j) = false := ne_of (by rw [dig_data j hj]; show ([109, 111, 114, 101] : List UInt8) ≠ _; simp)
theorem tw_app {α : Type} (e : α → α → Bool) (x : α) : ∀ (l pre : List α), twG e pre l = false → (pre ++ l).any (e x) = false → twG e pre (l ++ [x]) = false
  | [], pre, _, h => by
    rw [List.append_nil] at h
    rw [List.nil_append, twG, twG, h]; rfl
  | y :: l, pre, h1, h2 => by
    rw [twG, Bool.or_eq_false_iff] at h1
    rw [List.cons_append, twG, h1.1, tw_app e x l (pre ++ [y]) h1.2 (by rw [List.append_assoc]; exact h2)]; rfl
structure StI (i : Nat) (n : Int) (o : List Stk) : Prop where
  len : o.length ≤ i
  each : ∀ p ∈ o, (∃ j, j < i ∧ p.f0 = sn j) ∧ 1 ≤ p.f1 ∧ p.f1 ≤ n
  tw : twG (fun x y : Stk => eqS x.f0 y.f0) [] o = false
theorem chance_ok {l : List Int} {c a s n : Int} (hl : Byt l) (h : St c a s) (hc : c ≤ 100000) (hn : n ≤ 16777216) : ∃ v a' s', spec_l00Src_chance.f l a s n = some (v, a', s') ∧ St (c + 3) a' s' := by
  obtain ⟨v, a1, s1, e1, _, _, i1⟩ := next_ok (n := n) hl h hc hn
  exact ⟨_, _, _, by unfold spec_l00Src_chance.f; rw [e1]; rfl, i1⟩
theorem stock_step {l : List Int} {n : Int} (hl : Byt l) (hn : 1 ≤ n ∧ n ≤ 9) : ∀ (m i : Nat) (o : List Stk) (c a s : Int), i + m = 5 → StI i n o → c ≤ 10000 + 6 * (i : Int) → St c a s →
    ∃ o' a' s', Ev (fun k => spec_l00Src_stocked.l0 k n o sns (i : Int) l a s) (o', a', s') ∧ StI 5 n o' ∧ St (c + 6 * (m : Int)) a' s' := by
  intro m
  induction m with
  | zero =>
    intro i o c a s hi ho hc hs
    obtain rfl : i = 5 := by omega
    refine ⟨o, a, s, ev_succ (fun k => ?_), ho, by simpa using hs⟩
    simp only [spec_l00Src_stocked.l0]
    rw [if_neg (by omega)]
  | succ m ih =>
    intro i o c a s hi ho hc hs
    have hw : wrap64 ((i : Int) + 1) = ((i + 1 : Nat) : Int) := by rw [w64 (by omega) (by omega)]; omega
    obtain ⟨b, a1, s1, e1, i1⟩ := chance_ok (n := 2) hl hs (by omega) (by omega)
    have hst : ∀ {c' a' s' : Int}, St c' a' s' → c' ≤ c + 6 → St (c + 6) a' s' := fun g k => ⟨g.1, by have := g.2.1; omega, g.2.2⟩
    cases b with
    | false =>
      obtain ⟨o', a', s', hE, h1, h2⟩ := ih (i + 1) o (c + 6) a1 s1 (by omega) ⟨by have := ho.len; omega, fun p hp => by
        obtain ⟨⟨j, hj, e⟩, h⟩ := ho.each p hp
        exact ⟨⟨j, by omega, e⟩, h⟩, ho.tw⟩ (by omega) (hst i1 (by omega))
      refine ⟨o', a', s', Ev.step (fun k => ?_) hE, h1, by rw [show c + 6 * ((m + 1 : Nat) : Int) = c + 6 + 6 * (m : Int) by omega]; exact h2⟩
      simp only [spec_l00Src_stocked.l0, e1, Option.bind_some, hw]
      rw [if_pos (by omega), if_neg (by simp)]
    | true =>
      obtain ⟨v, a2, s2, e2, p2, q2, i2⟩ := next_ok (n := n) hl i1 (by omega) (by omega)
      have w1 : wrap64 (1 + v) = 1 + v := w64 (by omega) (by omega)
      obtain ⟨o', a', s', hE, h1, h2⟩ := ih (i + 1) (o ++ [(⟨sn i, 1 + v⟩ : Stk)]) (c + 6) a2 s2 (by omega) ⟨by rw [List.length_append, List.length_singleton]; have := ho.len; omega, fun p hp => by
        rcases List.mem_append.1 hp with h | h
        · obtain ⟨⟨j, hj, e⟩, h⟩ := ho.each p h
          exact ⟨⟨j, by omega, e⟩, h⟩
        · obtain rfl := List.mem_singleton.1 h
          exact ⟨⟨i, by omega, rfl⟩, by dsimp only; omega, by dsimp only; omega⟩, tw_app _ _ _ _ ho.tw (by
        rw [List.nil_append, List.any_eq_false]
        intro y hy
        obtain ⟨⟨j, hj, e⟩, _⟩ := ho.each y hy
        rw [e]
        show ¬ eqS (sn i) (sn j) = true
        rw [sn_ne (by omega) (by omega) (by omega)]; simp)⟩ (by omega) (hst i2 (by omega))
      refine ⟨o', a', s', Ev.step (fun k => ?_) hE, h1, by rw [show c + 6 * ((m + 1 : Nat) : Int) = c + 6 + 6 * (m : Int) by omega]; exact h2⟩
      simp only [spec_l00Src_stocked.l0, e1, e2, Option.bind_some, hw, w1]
      have hol := ho.len
      rw [if_pos (by omega), if_pos trivial, if_pos (ige _), if_pos (show (i : Int) < (sns.length : Int) by show (i : Int) < 5; omega), if_pos (show o.length < 5864062014805 by omega)]
      rfl
theorem stocked_ok {l : List Int} {n c a s : Int} (hl : Byt l) (hn : 1 ≤ n ∧ n ≤ 9) (hc : c ≤ 10000) (hs : St c a s) : ∃ o a' s', Ev (fun k => spec_l00Src_stocked.f k l a s n) (o, a', s') ∧ StI 5 n o ∧ St (c + 30) a' s' := by
  obtain ⟨o, a', s', hE, h1, h2⟩ := stock_step hl hn 5 0 [] c a s rfl ⟨by simp, by simp, rfl⟩ (by omega) hs
  exact ⟨o, a', s', hE, h1, by simpa using h2⟩
theorem stock_right {n : Int} {o : List Stk} {m lo : Int} (h : StI 5 n o) (hn : n ≤ 9) (hm : 5 ≤ m) (hlo : lo ≤ 1) : stockB o m lo = true := by
  unfold stockB
  rw [h.tw, decide_eq_true (show (o.length : Int) ≤ m by have := h.len; omega), List.all_eq_true.2 (fun p hp => by
    obtain ⟨⟨j, hj, e⟩, h1, h2⟩ := h.each p hp
    unfold okSt
    rw [e, sn_ok j hj, decide_eq_true (show lo ≤ p.f1 ∧ p.f1 ≤ 100000 by omega)]; rfl)]
  rfl
structure SoI (L : List Src) : Prop where
  len : L.length ≤ 4
  each : ∀ p ∈ L, (∃ j, j < L.length ∧ p.f0 = dig j) ∧ 0 ≤ p.f1 ∧ p.f1 ≤ 300 ∧ StI 5 9 p.f2
  tw : twG (fun x y : Src => eqS x.f0 y.f0) [] L = false
theorem so_each {L : List Src} (h : SoI L) : L.all okSo = true := List.all_eq_true.2 (fun p hp => by
  obtain ⟨⟨j, hj, e⟩, h1, h2, h3⟩ := h.each p hp
  have := h.len
  unfold okSo
  rw [e, dig_ok j (by omega), decide_eq_true (show 0 ≤ p.f1 ∧ p.f1 ≤ 1000000 by omega), stock_right h3 (by omega) (by omega) (by omega)]; rfl)
theorem so_right {L : List Src} {W : List Stk} (h : SoI L) (hW : StI 5 5 W) : srcB L W = true := by
  unfold srcB
  rw [h.tw, so_each h, stock_right hW (by omega) (by omega) (by omega), decide_eq_true (show L.length ≤ 6 by have := h.len; omega)]
  rfl
theorem so_more {L : List Src} {W : List Stk} (h : SoI L) (hW : StI 5 5 W) : srcB (L ++ [(⟨more, 90, W⟩ : Src)]) W = true := by
  have h4 := h.len
  unfold srcB
  rw [tw_app _ _ _ _ h.tw (by
    rw [List.nil_append, List.any_eq_false]
    intro y hy
    obtain ⟨⟨j, hj, e⟩, _⟩ := h.each y hy
    rw [e]
    show ¬ eqS more (dig j) = true
    rw [more_ne (by omega)]; simp), List.all_append, so_each h, stock_right hW (by omega) (by omega) (by omega), decide_eq_true (show (L ++ [(⟨more, 90, W⟩ : Src)]).length ≤ 6 by rw [List.length_append, List.length_singleton]; omega)]
  have : okSo (⟨more, 90, W⟩ : Src) = true := by
    unfold okSo
    rw [more_ok, stock_right hW (by omega) (by omega) (by omega)]; rfl
  rw [List.all_cons, this]; rfl
structure Drawn (L : List Src) (W : List Stk) (F : List Int) : Prop where
  so : SoI L
  st : StI 5 5 W
  fl : F.length = W.length
  fr : ∀ p ∈ F, ∃ v : Nat, p = (v : Int) ∧ v < L.length
theorem from_ok {l : List Int} {L : List Src} {W : List Stk} (hl : Byt l) (hL : 1 ≤ L.length ∧ L.length ≤ 4) (hW : W.length ≤ 5) : ∀ (m i : Nat) (F : List Int) (c a s : Int), i + m = W.length → F.length = i → (∀ p ∈ F, ∃ v : Nat, p = (v : Int) ∧ v < L.length) → c ≤ 10000 + 3 * (i : Int) → St c a s →
    ∃ F', Ev (fun k => spec_SourcesOf.l1 k L W F (i : Int) l a s) (L, W, F') ∧ F'.length = W.length ∧ ∀ p ∈ F', ∃ v : Nat, p = (v : Int) ∧ v < L.length := by
  intro m
  induction m with
  | zero =>
    intro i F c a s hi hF hp hc hs
    refine ⟨F, ev_succ (fun k => ?_), by omega, hp⟩
    simp only [spec_SourcesOf.l1]
    rw [if_neg (by omega)]
  | succ m ih =>
    intro i F c a s hi hF hp hc hs
    obtain ⟨v, a1, s1, e1, p1, q1, i1⟩ := next_ok (n := (L.length : Int)) hl hs (by omega) (by omega)
    obtain ⟨u, rfl⟩ := Int.eq_ofNat_of_zero_le p1
    have hw : wrap64 ((i : Int) + 1) = ((i + 1 : Nat) : Int) := by rw [w64 (by omega) (by omega)]; omega
    obtain ⟨F', hE, h1, h2⟩ := ih (i + 1) (F ++ [(u : Int)]) (c + 3) a1 s1 (by omega) (by rw [List.length_append, List.length_singleton]; omega) (fun p hp' => by
      rcases List.mem_append.1 hp' with h | h
      · exact hp p h
      · exact ⟨u, List.mem_singleton.1 h, by omega⟩) (by omega) i1
    refine ⟨F', Ev.step (fun k => ?_) hE, h1, h2⟩
    simp only [spec_SourcesOf.l1, e1, Option.bind_some, hw]
    rw [if_pos (by omega), if_pos (show F.length < 17592186044416 by omega)]
theorem list_ok {l : List Int} (hl : Byt l) : ∀ (m : Nat) (L : List Src) (c a s : Int), L.length + m ≤ 4 → 1 ≤ L.length + m → SoI L → c ≤ 100 + 40 * (L.length : Int) → St c a s →
    ∃ L' W F, Ev (fun k => spec_SourcesOf.l0 k L (m : Int) l a s) (L', W, F) ∧ Drawn L' W F := by
  intro m
  induction m with
  | zero =>
    intro L c a s h4 h1 hI hc hs
    obtain ⟨W, a1, s1, e1, i1, j1⟩ := stocked_ok (n := 5) hl (by omega) (by omega) hs
    obtain ⟨F, hE, g1, g2⟩ := from_ok (L := L) (W := W) hl (by omega) i1.len W.length 0 [] (c + 30) a1 s1 (by omega) rfl (by simp) (by omega) j1
    refine ⟨L, W, F, Ev.step (f := fun k => (spec_l00Src_stocked.f k l a s 5).bind fun bt163 => (spec_SourcesOf.l1 k L bt163.1 (([] : List Int)) 0 l bt163.2.1 bt163.2.2)) (fun k => ?_) (ev_bind e1 hE), ⟨hI, i1, g1, g2⟩⟩
    simp only [spec_SourcesOf.l0]
    rw [if_neg (by omega)]
  | succ m ih =>
    intro L c a s h4 h1 hI hc hs
    obtain ⟨v, a1, s1, e1, p1, q1, i1⟩ := next_ok (n := 6) hl hs (by omega) (by omega)
    obtain ⟨S, a2, s2, e2, i2, j2⟩ := stocked_ok (n := 9) hl (by omega) (by omega) i1
    have w1 : wrap64 (50 * v) = 50 * v := w64 (by omega) (by omega)
    have w2 : wrap64 (((m + 1 : Nat) : Int) - 1) = (m : Int) := by rw [w64 (by omega) (by omega)]; omega
    obtain ⟨L', W, F, hE, hD⟩ := ih (L ++ [(⟨dig L.length, 50 * v, S⟩ : Src)]) (c + 3 + 30) a2 s2 (by rw [List.length_append, List.length_singleton]; omega) (by rw [List.length_append, List.length_singleton]; omega) ⟨by rw [List.length_append, List.length_singleton]; omega, fun p hp => by
      rw [List.length_append, List.length_singleton]
      rcases List.mem_append.1 hp with h | h
      · obtain ⟨⟨j, hj, e⟩, h⟩ := hI.each p h
        exact ⟨⟨j, by omega, e⟩, h⟩
      · obtain rfl := List.mem_singleton.1 h
        exact ⟨⟨L.length, by omega, rfl⟩, by dsimp only; omega, by dsimp only; omega, i2⟩, tw_app _ _ _ _ hI.tw (by
      rw [List.nil_append, List.any_eq_false]
      intro y hy
      obtain ⟨⟨j, hj, e⟩, _⟩ := hI.each y hy
      rw [e]
      show ¬ eqS (dig L.length) (dig j) = true
      rw [dig_ne (by omega) (by omega) (by omega)]; simp)⟩ (by rw [List.length_append, List.length_singleton]; omega) j2
    have hd : Ev (fun k => spec_l00Digits.f k (L.length : Int)) (strOfNums (([(wrap64 (48 + (L.length : Int))) % 256] : List Int))) := ev_succ (fun k => by
      simp only [spec_l00Digits.f]
      rw [if_neg (by omega), if_neg (by omega), if_pos (by omega)])
    refine ⟨L', W, F, Ev.step (f := fun k => (spec_l00Digits.f k (L.length : Int)).bind fun t151 => (if 1 + t151.size ≤ 9223372036854775807 then ((spec_l00Src_stocked.f k l a1 s1 9).bind fun bt155 => spec_SourcesOf.l0 k (L ++ [(⟨(⟨#[115]⟩ : ByteArray) ++ t151, 50 * v, bt155.1⟩ : Src)]) (m : Int) l bt155.2.1 bt155.2.2) else (none))) (fun k => ?_) (ev_bind hd (ev_pos (by show 1 + 1 ≤ 9223372036854775807; omega) (ev_bind e2 hE))), hD⟩
    simp only [spec_SourcesOf.l0, e1, Option.bind_some, w1, w2]
    rw [if_pos (by omega)]
    simp only [if_pos (show L.length < 2932031007402 by omega)]
theorem sources_ok {l : List Int} (hl : Byt l) : ∃ L W F, Ev (fun k => spec_SourcesOf.f k l) (L, W, F) ∧ Drawn L W F := by
  obtain ⟨s0, e0, i0⟩ := source_ok (l := l)
  obtain ⟨v, a1, s1, e1, p1, q1, i1⟩ := next_ok (n := 4) hl i0 (by omega) (by omega)
  obtain ⟨u, rfl⟩ := Int.eq_ofNat_of_zero_le p1
  obtain ⟨L, W, F, hE, hD⟩ := list_ok hl (u + 1) [] (0 + 3) a1 s1 (by simp; omega) (by simp) ⟨by simp, by simp, rfl⟩ (by omega) i1
  refine ⟨L, W, F, ?_, hD⟩
  unfold spec_SourcesOf.f
  simp only [e0, Option.bind_some, e1]
  rw [show wrap64 (1 + (u : Int)) = ((u + 1 : Nat) : Int) by rw [w64 (by omega) (by omega)]; omega]
  exact hE
end Go.Proofs.Ytojncbpeeboooaa.ZSrcDrX
