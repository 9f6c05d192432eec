/- The drawn shifts and workers are right ones. -/
import Derived.Test.YtojncbpeeboooaaZDrawY
import Derived.Test.YtojncbpeeboooaaZShiftsY
namespace Go.Proofs.Ytojncbpeeboooaa.ZShDrY
open Go.RowKit Go.Proofs.Ytojncbpeeboooaa.Y Go.Proofs.Ytojncbpeeboooaa.Lib Go.Proofs.Ytojncbpeeboooaa.ZNameY Go.Proofs.Ytojncbpeeboooaa.ZDrawY Go.Proofs.Ytojncbpeeboooaa.ZShiftsY Go.Proofs.YtojncbpeeboooaaW.PrintWords Go.Proofs.YtojncbpeeboooaaW.PrintLast Go.Proofs.YtojncbpeeboooaaW.PrintMore
theorem ev_one {α : Type} {g : Nat → Option α} {a b : α} (h1 : Ev g a) (h2 : Ev g b) : a = b := by
  obtain ⟨n, h1⟩ := h1
  obtain ⟨m, h2⟩ := h2
  have e1 := h1 (n + m) (by omega)
  have e2 := h2 (n + m) (by omega)
  rw [e1] at e2
  exact Option.some.inj e2
theorem name_of {a : ByteArray} (h : spec_NameOK.f 60 a = some true) : nameB a = true := ev_one (name_spec a) (Ev.of (spec_NameOK.mono a) h)
theorem loop_eq (bs : ByteArray) : ∀ (n i : Nat) (r : List UInt8), bs.size - i = n → ByteArray.toList.loop bs i r = r.reverse ++ bs.data.toList.drop i := by
  intro n
  induction n with
  | zero =>
    intro i r h
    have hl : bs.data.toList.length = bs.size := rfl
    unfold ByteArray.toList.loop
    rw [if_neg (by omega), List.drop_eq_nil_of_le (by omega), List.append_nil]
  | succ n ih =>
    intro i r h
    have hl : bs.data.toList.length = bs.size := rfl
    have hi : i < bs.data.toList.length := by omega
    unfold ByteArray.toList.loop
    rw [if_pos (by omega), ih (i + 1) _ (by omega), List.reverse_cons, List.append_assoc, List.drop_eq_getElem_cons hi]
    have e : bs.get! i = bs.data.toList[i] := by
      show bs.data[i]! = _
      rw [getElem!_pos bs.data i hi]
      simp
    rw [← e]
    rfl
theorem tl (a : ByteArray) : a.toList = a.data.toList := by
  unfold ByteArray.toList
  rw [loop_eq a _ 0 [] rfl]
  rfl
theorem ne_of {a b : ByteArray} (h : a.data.toList ≠ b.data.toList) : eqS a b = false := by
  unfold eqS
  rw [tl, tl]
  exact decide_eq_false h
def till : ByteArray := ⟨#[116, 105, 108, 108]⟩
def bread : ByteArray := ⟨#[98, 114, 101, 97, 100]⟩
theorem till_ok : nameB till = true := name_of (by kernel_rfl)
theorem bread_ok : nameB bread = true := name_of (by kernel_rfl)
def dig (j : Nat) : ByteArray := (⟨#[119]⟩ : ByteArray) ++ strOfNums (([(wrap64 (48 + (j : Int))) % 256] : List Int))
theorem dig_ok : ∀ j, j < 4 → nameB (dig j) = true
  | 0, _ => name_of (by kernel_rfl)
  | 1, _ => name_of (by kernel_rfl)
  | 2, _ => name_of (by kernel_rfl)
  | 3, _ => name_of (by kernel_rfl)
  | n + 4, h => by omega
theorem dig_data : ∀ j, j < 4 → (dig j).data.toList = [119, UInt8.ofNat (48 + j)]
  | 0, _ => by kernel_rfl
  | 1, _ => by kernel_rfl
  | 2, _ => by kernel_rfl
  | 3, _ => by kernel_rfl
  | n + 4, h => by omega
theorem dig_ne {i j : Nat} (hi : i < 4) (hj : j < 4) (h : i ≠ j) : eqS (dig i) (dig j) = false := by
  have key : ∀ i, i < 4 → ∀ j, j < 4 → i ≠ j → ([119, UInt8.ofNat (48 + i)] : List UInt8) ≠ [119, UInt8.ofNat (48 + j)] := by decide
  exact ne_of (by rw [dig_data i hi, dig_data j hj]; exact key i hi j hj h)
def more : ByteArray := ⟨#[109, 111, 114, 101]⟩
theorem more_ok : nameB more = true := name_of (by kernel_rfl)
theorem more_ne {j : Nat} (hj : j < 4) : eqS more (dig j) = false := ne_of (by rw [dig_data j hj]; show ([109, 111, 114, 101] : List UInt8) ≠ _; simp)
theorem tw_app {α : Type} (e : α → α → Bool) (x : α) : ∀ (l pre : List α), twG e pre l = false → (pre ++ l).any (e x) = false → twG e pre (l ++ [x]) = false
  | [], pre, _, h => by
    rw [List.append_nil] at h
    rw [List.nil_append, twG, twG, h]; rfl
  | y :: l, pre, h1, h2 => by
    rw [twG, Bool.or_eq_false_iff] at h1
    rw [List.cons_append, twG, h1.1, tw_app e x l (pre ++ [y]) h1.2 (by rw [List.append_assoc]; exact h2)]; rfl
theorem skill_ok {l : List Int} {c a s : Int} (hl : Byt l) (h : St c a s) (hc : c ≤ 100000) : ∃ v a' s', spec_l00Src_skill.f l a s = some (v, a', s') ∧ nameB v = true ∧ St (c + 3) a' s' := by
  obtain ⟨v, a1, s1, e1, p1, q1, i1⟩ := next_ok (n := 3) hl h hc (by omega)
  obtain ⟨u, rfl⟩ := Int.eq_ofNat_of_zero_le p1
  have hu : u = 0 ∨ u = 1 ∨ u = 2 := by omega
  refine ⟨_, a1, s1, by
    unfold spec_l00Src_skill.f spec_l00Src_pick.f
    rw [if_neg (by decide), show ((([(⟨#[116, 105, 108, 108]⟩ : ByteArray), (⟨#[98, 114, 101, 97, 100]⟩ : ByteArray), (⟨#[116, 105, 108, 108]⟩ : ByteArray)] : List ByteArray).length : Nat) : Int) = 3 from rfl, e1, Option.bind_some, if_pos p1, if_pos (by show (u : Int) < 3; omega), Option.bind_some], ?_, i1⟩
  rcases hu with rfl | rfl | rfl
  · exact till_ok
  · exact bread_ok
  · exact till_ok
theorem chance_ok {l : List Int} {c a s n : Int} (hl : Byt l) (h : St c a s) (hc : c ≤ 100000) (hn : n ≤ 16777216) : ∃ v a' s', spec_l00Src_chance.f l a s n = some (v, a', s') ∧ St (c + 3) a' s' := by
  obtain ⟨v, a1, s1, e1, _, _, i1⟩ := next_ok (n := n) hl h hc hn
  exact ⟨_, _, _, by unfold spec_l00Src_chance.f; rw [e1]; rfl, i1⟩
structure ShI (L : List Sh) (top : Int) : Prop where
  each : ∀ p ∈ L, 0 ≤ p.f0 ∧ p.f0 < p.f1 ∧ p.f1 ≤ 10080 ∧ nameB p.f2 = true ∧ p.f0 ≤ top
  srt : L.Pairwise (fun p q => p.f0 ≤ q.f0)
theorem sh_right {L : List Sh} {top : Int} (h : ShI L top) : ∀ n, n ≤ L.length → allSh L n = true
  | 0, _ => rfl
  | n + 1, hn => by
    have hi : L.length - (n + 1) < L.length := by omega
    unfold allSh
    rw [List.getElem?_eq_getElem hi]
    dsimp only
    rw [sh_right h n (by omega), Bool.and_true]
    obtain ⟨h1, h2, h3, h4, _⟩ := h.each _ (List.getElem_mem hi)
    unfold okSh
    rw [decide_eq_true (show 0 ≤ L[L.length - (n + 1)].f0 ∧ L[L.length - (n + 1)].f0 < L[L.length - (n + 1)].f1 ∧ L[L.length - (n + 1)].f1 ≤ 10080 from ⟨h1, h2, h3⟩), h4, Bool.true_and, Bool.true_and]
    by_cases c : 0 < L.length - (n + 1)
    · have hj : L.length - (n + 1) - 1 < L.length := by omega
      have hr : rd_T139 L (((L.length - (n + 1) : Nat) : Int) - 1) = L[L.length - (n + 1) - 1] := by
        rw [show ((L.length - (n + 1) : Nat) : Int) - 1 = ((L.length - (n + 1) - 1 : Nat) : Int) by omega]
        exact getD_some (List.getElem?_eq_getElem hj)
      have := (List.pairwise_iff_getElem.1 h.srt) (L.length - (n + 1) - 1) (L.length - (n + 1)) hj hi (by omega)
      rw [hr, decide_eq_false (show ¬ L[L.length - (n + 1)].f0 < L[L.length - (n + 1) - 1].f0 by omega), Bool.and_false]; rfl
    · rw [decide_eq_false c, Bool.false_and]; rfl
structure WoI (W : List Wo) : Prop where
  len : W.length ≤ 4
  each : ∀ p ∈ W, (∃ j, j < W.length ∧ p.f0 = dig j) ∧ okWo p = true ∧ p.f4.length ≤ 2
  tw : twG (fun x y : Wo => eqS x.f0 y.f0) [] W = false
theorem wo_right {W : List Wo} (h : WoI W) : woB W = true := by
  unfold woB
  rw [h.tw, List.all_eq_true.2 (fun p hp => (h.each p hp).2.1)]; rfl
abbrev mo : Wo := ⟨more, 300, 10, 3, [till]⟩
theorem wo_more {W : List Wo} (h : WoI W) : woB (W ++ [mo]) = true := by
  have h4 := h.len
  unfold woB
  rw [tw_app _ _ _ _ h.tw (by
    rw [List.nil_append, List.any_eq_false]
    intro y hy
    obtain ⟨⟨j, hj, e⟩, _⟩ := h.each y hy
    rw [e]
    show ¬ eqS more (dig j) = true
    rw [more_ne (by omega)]; simp), List.all_append, List.all_eq_true.2 (fun p hp => (h.each p hp).2.1)]
  have : okWo mo = true := by
    unfold okWo
    rw [more_ok, show mo.f4.all nameB = true from by show (nameB till && true) = true; rw [till_ok]; rfl]
    rfl
  rw [List.all_cons, this]; rfl
structure Drawn (L : List Sh) (W : List Wo) (F : List Int) : Prop where
  len : L.length ≤ 5
  sh : ∃ top, ShI L top
  wo : WoI W
  pos : 1 ≤ W.length
  fl : F.length = L.length
  fr : ∀ p ∈ F, ∃ v : Nat, p = (v : Int) ∧ v < W.length
theorem sh_all {L : List Sh} {W : List Wo} {F : List Int} (h : Drawn L W F) : shB L W = true := by
  obtain ⟨top, hs⟩ := h.sh
  unfold shB
  rw [sh_right hs _ (Nat.le_refl _), wo_right h.wo, decide_eq_true ⟨by have := h.len; omega, by have := h.wo.len; omega⟩]; rfl
theorem sh_more {L : List Sh} {W : List Wo} {F : List Int} (h : Drawn L W F) : shB L (W ++ [mo]) = true := by
  obtain ⟨top, hs⟩ := h.sh
  unfold shB
  rw [sh_right hs _ (Nat.le_refl _), wo_more h.wo, decide_eq_true ⟨by have := h.len; omega, by rw [List.length_append, List.length_singleton]; have := h.wo.len; omega⟩]; rfl
theorem who_ok {l : List Int} {L : List Sh} {W : List Wo} (hl : Byt l) (hL : L.length ≤ 5) (hW : 1 ≤ W.length ∧ W.length ≤ 4) : ∀ (m i : Nat) (F : List Int) (c a s : Int), i + m = L.length → F.length = i → (∀ p ∈ F, ∃ v : Nat, p = (v : Int) ∧ v < W.length) → c ≤ 10000 + 3 * (i : Int) → St c a s →
    ∃ F', Ev (fun k => spec_ShiftsOf.l2 k L W F (i : Int) l a s) (L, W, F') ∧ F'.length = L.length ∧ ∀ p ∈ F', ∃ v : Nat, p = (v : Int) ∧ v < W.length := by
  intro m
  induction m with
  | zero =>
    intro i F c a s hi hF hp hc hs
    refine ⟨F, ev_succ (fun k => ?_), by omega, hp⟩
    simp only [spec_ShiftsOf.l2]
    rw [if_neg (by omega)]
  | succ m ih =>
    intro i F c a s hi hF hp hc hs
    obtain ⟨v, a1, s1, e1, p1, q1, i1⟩ := next_ok (n := (W.length : Int)) hl hs (by omega) (by omega)
    obtain ⟨u, rfl⟩ := Int.eq_ofNat_of_zero_le p1
    have hw : wrap64 ((i : Int) + 1) = ((i + 1 : Nat) : Int) := by rw [w64 (by omega) (by omega)]; omega
    obtain ⟨F', hE, h1, h2⟩ := ih (i + 1) (F ++ [(u : Int)]) (c + 3) a1 s1 (by omega) (by rw [List.length_append, List.length_singleton]; omega) (fun p hp' => by
      rcases List.mem_append.1 hp' with h | h
      · exact hp p h
      · exact ⟨u, List.mem_singleton.1 h, by omega⟩) (by omega) i1
    refine ⟨F', Ev.step (fun k => ?_) hE, h1, h2⟩
    simp only [spec_ShiftsOf.l2, e1, Option.bind_some, hw]
    rw [if_pos (by omega), if_pos (show F.length < 17592186044416 by omega)]
theorem work_ok {l : List Int} {L : List Sh} {top : Int} (hl : Byt l) (hL : L.length ≤ 5) (hS : ShI L top) : ∀ (m : Nat) (W : List Wo) (c a s : Int), W.length + m ≤ 4 → 1 ≤ W.length + m → WoI W → c ≤ 1000 + 20 * (W.length : Int) → St c a s →
    ∃ W' F, Ev (fun k => spec_ShiftsOf.l1 k L W (m : Int) l a s) (L, W', F) ∧ Drawn L W' F := by
  intro m
  induction m with
  | zero =>
    intro W c a s h4 h1 hI hc hs
    obtain ⟨F, hE, g1, g2⟩ := who_ok (L := L) (W := W) hl hL (by omega) L.length 0 [] c a s (by omega) rfl (fun p hp => by cases hp) (by omega) hs
    refine ⟨W, F, Ev.step (fun k => ?_) hE, ⟨hL, ⟨top, hS⟩, hI, by omega, g1, g2⟩⟩
    simp only [spec_ShiftsOf.l1]
    rw [if_neg (by omega)]
    rfl
  | succ m ih =>
    intro W c a s h4 h1 hI hc hs
    obtain ⟨t1, a1, s1, e1, p1, q1, i1⟩ := next_ok (n := 400) hl hs (by omega) (by omega)
    obtain ⟨t2, a2, s2, e2, p2, q2, i2⟩ := next_ok (n := 5) hl i1 (by omega) (by omega)
    obtain ⟨t3, a3, s3, e3, p3, q3, i3⟩ := next_ok (n := 9) hl i2 (by omega) (by omega)
    obtain ⟨b, a4, s4, e4, i4⟩ := chance_ok (n := 3) hl i3 (by omega) (by omega)
    have w1 : wrap64 (60 + t1) = 60 + t1 := w64 (by omega) (by omega)
    have w2 : wrap64 (15 * t2) = 15 * t2 := w64 (by omega) (by omega)
    have w3 : wrap64 (1 + t3) = 1 + t3 := w64 (by omega) (by omega)
    have w5 : wrap64 (((m + 1 : Nat) : Int) - 1) = (m : Int) := by rw [w64 (by omega) (by omega)]; omega
    have hd : Ev (fun k => spec_l00Digits.f k (W.length : Int)) (strOfNums (([(wrap64 (48 + (W.length : Int))) % 256] : List Int))) := ev_succ (fun k => by
      simp only [spec_l00Digits.f]
      rw [if_neg (by omega), if_neg (by omega), if_pos (by omega)])
    have nxt : ∀ sk : List ByteArray, sk.length ≤ 2 → sk.all nameB = true → ∃ W' F, Ev (fun k => spec_ShiftsOf.l1 k L (W ++ [(⟨dig W.length, 60 + t1, 15 * t2, 1 + t3, sk⟩ : Wo)]) (m : Int) l a4 s4) (L, W', F) ∧ Drawn L W' F := fun sk hk1 hk2 =>
      ih (W ++ [(⟨dig W.length, 60 + t1, 15 * t2, 1 + t3, sk⟩ : Wo)]) (c + 3 + 3 + 3 + 3) a4 s4 (by rw [List.length_append, List.length_singleton]; omega) (by rw [List.length_append, List.length_singleton]; omega) ⟨by rw [List.length_append, List.length_singleton]; omega, fun p hp => by
        rw [List.length_append, List.length_singleton]
        rcases List.mem_append.1 hp with h | h
        · obtain ⟨⟨j, hj, e⟩, h⟩ := hI.each p h
          exact ⟨⟨j, by omega, e⟩, h⟩
        · obtain rfl := List.mem_singleton.1 h
          refine ⟨⟨W.length, by omega, rfl⟩, ?_, hk1⟩
          unfold okWo
          dsimp only
          rw [dig_ok W.length (by omega), hk2, decide_eq_true (show 0 ≤ 60 + t1 ∧ 60 + t1 ≤ 10080 by omega), decide_eq_true (show 0 ≤ 15 * t2 ∧ 15 * t2 ≤ 10080 by omega), decide_eq_true (show 0 ≤ 1 + t3 ∧ 1 + t3 ≤ 1000 by omega), decide_eq_true (show (sk.length : Int) ≤ 6 by omega)]
          rfl, tw_app _ _ _ _ hI.tw (by
        rw [List.nil_append, List.any_eq_false]
        intro y hy
        obtain ⟨⟨j, hj, e⟩, _⟩ := hI.each y hy
        rw [e]
        show ¬ eqS (dig W.length) (dig j) = true
        rw [dig_ne (by omega) (by omega) (by omega)]; simp)⟩ (by rw [List.length_append, List.length_singleton]; omega) i4
    obtain ⟨W', F, hE, hD⟩ := nxt (if b = true then [till] else [till] ++ [bread]) (by cases b <;> simp) (by
      cases b with
      | true => rw [if_pos rfl, List.all_cons, till_ok]; rfl
      | false => rw [if_neg (by simp), List.all_append, List.all_cons, List.all_cons, till_ok, bread_ok]; rfl)
    refine ⟨W', F, Ev.step (f := fun k => (spec_l00Digits.f k (W.length : Int)).bind fun t => (if 1 + t.size ≤ 9223372036854775807 then spec_ShiftsOf.l1 k L (W ++ [(⟨(⟨#[119]⟩ : ByteArray) ++ t, 60 + t1, 15 * t2, 1 + t3, if b = true then [till] else [till] ++ [bread]⟩ : Wo)]) (m : Int) l a4 s4 else none)) (fun k => ?_) (ev_bind hd (ev_pos (by show 1 + 1 ≤ 9223372036854775807; omega) hE)), hD⟩
    simp only [spec_ShiftsOf.l1, e1, e2, e3, e4, Option.bind_some, w1, w2, w3, w5]
    rw [if_pos (by omega)]
    have hWl : W.length < 2199023255552 := by omega
    cases b with
    | true => simp only [if_pos hWl]; rfl
    | false =>
      simp only [if_pos hWl, List.length_cons, List.length_nil]
      rfl
theorem list_ok {l : List Int} (hl : Byt l) : ∀ (m : Nat) (L : List Sh) (top c a s : Int), L.length + m ≤ 5 → ShI L top → 0 ≤ top → top ≤ 60 + 120 * (L.length : Int) → c ≤ 100 + 15 * (L.length : Int) → St c a s →
    ∃ L' W F, Ev (fun k => spec_ShiftsOf.l0 k L top (m : Int) l a s) (L', W, F) ∧ Drawn L' W F := by
  intro m
  induction m with
  | zero =>
    intro L top c a s h5 hI ht0 ht hc hs
    obtain ⟨v, a1, s1, e1, p1, q1, i1⟩ := next_ok (n := 4) hl hs (by omega) (by omega)
    obtain ⟨u, rfl⟩ := Int.eq_ofNat_of_zero_le p1
    obtain ⟨W, F, hE, hD⟩ := work_ok (L := L) (top := top) hl (by omega) hI (u + 1) [] (c + 3) a1 s1 (by show 0 + (u + 1) ≤ 4; omega) (by omega) ⟨by simp, fun p hp => by (cases hp), rfl⟩ (by omega) i1
    refine ⟨L, W, F, Ev.step (fun k => ?_) hE, hD⟩
    simp only [spec_ShiftsOf.l0, e1, Option.bind_some]
    rw [if_neg (by omega), show wrap64 (1 + (u : Int)) = ((u + 1 : Nat) : Int) by rw [w64 (by omega) (by omega)]; omega]
  | succ m ih =>
    intro L top c a s h5 hI ht0 ht hc hs
    obtain ⟨t1, a1, s1, e1, p1, q1, i1⟩ := next_ok (n := 90) hl hs (by omega) (by omega)
    obtain ⟨sk, a2, s2, e2, n2, i2⟩ := skill_ok hl i1 (by omega)
    obtain ⟨t3, a3, s3, e3, p3, q3, i3⟩ := next_ok (n := 120) hl i2 (by omega) (by omega)
    have w1 : wrap64 (top + 30) = top + 30 := w64 (by omega) (by omega)
    have w2 : wrap64 (top + 30 + t1) = top + 30 + t1 := w64 (by omega) (by omega)
    have w3 : wrap64 (top + t3) = top + t3 := w64 (by omega) (by omega)
    have w5 : wrap64 (((m + 1 : Nat) : Int) - 1) = (m : Int) := by rw [w64 (by omega) (by omega)]; omega
    obtain ⟨L', W, F, hE, hD⟩ := ih (L ++ [(⟨top, top + 30 + t1, sk⟩ : Sh)]) (top + t3) (c + 3 + 3 + 3) a3 s3 (by rw [List.length_append, List.length_singleton]; omega) ⟨fun p hp => by
      rcases List.mem_append.1 hp with h | h
      · obtain ⟨g1, g2, g3, g4, g5⟩ := hI.each p h
        exact ⟨g1, g2, g3, g4, by omega⟩
      · obtain rfl := List.mem_singleton.1 h
        exact ⟨ht0, by dsimp only; omega, by dsimp only; omega, n2, by dsimp only; omega⟩, by
      rw [List.pairwise_append]
      refine ⟨hI.srt, by simp, fun p hp q hq => ?_⟩
      obtain rfl := List.mem_singleton.1 hq
      exact (hI.each p hp).2.2.2.2⟩ (by omega) (by rw [List.length_append, List.length_singleton]; omega) (by rw [List.length_append, List.length_singleton]; omega) i3
    refine ⟨L', W, F, Ev.step (fun k => ?_) hE, hD⟩
    simp only [spec_ShiftsOf.l0, e1, e2, e3, Option.bind_some, w1, w2, w3, w5]
    rw [if_pos (by omega), if_pos (by omega)]
theorem shifts_ok {l : List Int} (hl : Byt l) : ∃ L W F, Ev (fun k => spec_ShiftsOf.f k l) (L, W, F) ∧ Drawn L W F := by
  obtain ⟨s0, e0, i0⟩ := source_ok (l := l)
  obtain ⟨b, a0, s1, e1, p1, q1, i1⟩ := next_ok (n := 60) hl i0 (by omega) (by omega)
  obtain ⟨z, ez, hz, hz2⟩ := size_ok l a0 s1 5
  have hw : wrap64 (z + 1) = z + 1 := w64 (by omega) (by omega)
  obtain ⟨v, a2, s2, e2, p2, q2, i2⟩ := next_ok (n := z + 1) hl i1 (by omega) (by omega)
  have hv : v ≤ 5 := by omega
  obtain ⟨m, rfl⟩ := Int.eq_ofNat_of_zero_le p2
  obtain ⟨L, W, F, hE, hD⟩ := list_ok hl m [] b (0 + 3 + 3) a2 s2 (by show 0 + m ≤ 5; omega) ⟨fun p hp => by (cases hp), List.Pairwise.nil⟩ p1 (by show b ≤ 60 + 120 * ((0 : Nat) : Int); omega) (by show (0 : Int) + 3 + 3 ≤ 100 + 15 * ((0 : Nat) : Int); omega) i2
  have e : ∀ k, spec_ShiftsOf.f k l = spec_ShiftsOf.l0 k ([] : List Sh) b (m : Int) l a2 s2 := fun k => by
    rw [spec_ShiftsOf.f, e0, Option.bind_some, e1, Option.bind_some, ez, Option.bind_some, hw, e2, Option.bind_some]
  exact ⟨L, W, F, ev_same hE e, hD⟩
end Go.Proofs.Ytojncbpeeboooaa.ZShDrY
