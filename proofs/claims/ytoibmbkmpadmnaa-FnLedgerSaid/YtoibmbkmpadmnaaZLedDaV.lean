/- The drawn history: the shops' events. -/
import Derived.Test.YtoibmbkmpadmnaaZLedRiV
import Derived.Test.YtoibmbkmpadmnaaZDrawV
namespace Go.Proofs.Ytoibmbkmpadmnaa.ZLedDaV
open Go.RowKit Go.Proofs.Ytoibmbkmpadmnaa.V Go.Proofs.Ytoibmbkmpadmnaa.Lib Go.Proofs.Ytoibmbkmpadmnaa.ZNamIV Go.Proofs.Ytoibmbkmpadmnaa.ZLedEiV Go.Proofs.Ytoibmbkmpadmnaa.ZLedRiV Go.Proofs.Ytoibmbkmpadmnaa.ZDrawV Go.Proofs.YtoibmbkmpadmnaaW.PrintWords Go.Proofs.YtoibmbkmpadmnaaW.PrintLast Go.Proofs.YtoibmbkmpadmnaaW.PrintMore
theorem le_step {α : Type} {f : Nat → Option α} (hm : ∀ k, LeO (f k) (f (k + 1))) {n : Nat} {r : α} (h : f n = some r) : Ev f r := by
  refine ⟨n, fun k hk => ?_⟩
  induction hk with
  | refl => exact h
  | step _ ih => exact hm _ _ ih
theorem ev_uniq {α : Type} {f : Nat → Option α} {a b : α} (h1 : Ev f a) (h2 : Ev f b) : a = b := by
  obtain ⟨n, hn⟩ := h1
  obtain ⟨m, hm⟩ := h2
  have e1 := hn (max n m) (Nat.le_max_left _ _)
  have e2 := hm (max n m) (Nat.le_max_right _ _)
  rw [e1] at e2
  exact Option.some.inj e2
def nmA : ByteArray := ⟨#[97]⟩
def nmB : ByteArray := ⟨#[98]⟩
def nmC : ByteArray := ⟨#[208, 180, 208, 190, 208, 188]⟩
theorem okA : nameB nmA = true := ev_uniq (name_impl nmA) (le_step (fun k => impl_NameOK.mono _ k) (n := 12) (by decide +kernel))
theorem okB' : nameB nmB = true := ev_uniq (name_impl nmB) (le_step (fun k => impl_NameOK.mono _ k) (n := 12) (by decide +kernel))
theorem okC : nameB nmC = true := ev_uniq (name_impl nmC) (le_step (fun k => impl_NameOK.mono _ k) (n := 12) (by decide +kernel))
theorem ah_iff (a b : Ew) : ahB a b = true ↔ (a.f2 < b.f2 ∨ (a.f2 = b.f2 ∧ (a.f0 < b.f0 ∨ (a.f0 = b.f0 ∧ a.f1 < b.f1)))) := by
  unfold ahB
  by_cases h2 : a.f2 = b.f2
  · rw [if_pos h2]
    by_cases h0 : a.f0 = b.f0
    · rw [if_pos h0, decide_eq_true_eq]; omega
    · rw [if_neg h0, decide_eq_true_eq]; omega
  · rw [if_neg h2, decide_eq_true_eq]; omega
structure GoodL (L : List Ew) (s T : Int) : Prop where
  ev : ∀ e ∈ L, evB e = true
  sq : ∀ e ∈ L, 1 ≤ e.f1 ∧ e.f1 ≤ L.length
  pw : L.Pairwise (fun a b => ahB a b = true ∧ (a.f0 = b.f0 → a.f1 < b.f1))
  sh : ∀ e ∈ L, e.f0 ≤ s ∧ (e.f0 = s → e.f2 ≤ T)
theorem GoodL.ins {L : List Ew} {s T : Int} (h : GoodL L s T) {e : Ew} (he : evB e = true) (h0 : e.f0 = s) (h2 : e.f2 = T) (h1 : 1 ≤ e.f1 ∧ e.f1 ≤ L.length + 1) (hq : ∀ y ∈ L, y.f0 = s → y.f1 < e.f1) {T' : Int} (hT : T ≤ T') {j : Nat} (hj : j ≤ L.length)
    (ha : ∀ y ∈ L.drop j, ahB e y = true) (hb : ∀ y ∈ L.take j, ahB y e = true) : GoodL (L.take j ++ [e] ++ L.drop j) s T' := by
  have hmem : ∀ y, y ∈ L.take j ++ [e] ++ L.drop j → y = e ∨ y ∈ L := by
    intro y hy
    rcases List.mem_append.1 hy with hy | hy
    · rcases List.mem_append.1 hy with hy | hy
      · exact .inr (List.mem_of_mem_take hy)
      · exact .inl (List.mem_singleton.1 hy)
    · exact .inr (List.mem_of_mem_drop hy)
  have hlen : (L.take j ++ [e] ++ L.drop j).length = L.length + 1 := by simp; omega
  refine ⟨fun y hy => ?_, fun y hy => ?_, ?_, fun y hy => ?_⟩
  · rcases hmem y hy with rfl | hy
    · exact he
    · exact h.ev y hy
  · rw [hlen]
    rcases hmem y hy with rfl | hy
    · omega
    · have := h.sq y hy; omega
  · have hp := h.pw
    rw [← List.take_append_drop j L] at hp
    have hp2 := List.pairwise_append.1 hp
    rw [List.append_assoc]
    refine List.pairwise_append.2 ⟨hp2.1, List.pairwise_append.2 ⟨by simp, hp2.2.1, fun a ha' b hb' => ?_⟩, fun a ha' b hb' => ?_⟩
    · rw [List.mem_singleton.1 ha']
      refine ⟨ha b hb', fun hs => ?_⟩
      have hbm := List.mem_of_mem_drop hb'
      have h3 := (h.sh b hbm).2 (by omega)
      have h4 := hq b hbm (by omega)
      have h5 := (ah_iff e b).1 (ha b hb')
      omega
    · rcases List.mem_append.1 hb' with hb' | hb'
      · rw [List.mem_singleton.1 hb']
        exact ⟨hb a ha', fun hs => hq a (List.mem_of_mem_take ha') (by omega)⟩
      · exact hp2.2.2 a ha' b hb'
  · rcases hmem y hy with rfl | hy
    · exact ⟨by omega, fun _ => by omega⟩
    · have := h.sh y hy
      exact ⟨this.1, fun hs => by have := this.2 hs; omega⟩
theorem GoodL.next {L : List Ew} {s T : Int} (h : GoodL L s T) {T' : Int} : GoodL L (s + 1) T' :=
  ⟨h.ev, h.sq, h.pw, fun e he => by have := (h.sh e he).1; exact ⟨by omega, fun h => by omega⟩⟩
theorem GoodL.ok {L : List Ew} {s T : Int} (h : GoodL L s T) (hl : L.length ≤ 120) : okB L = true := by
  have hr : ∀ i, i < L.length → okI L i = true := by
    intro i hi
    have hx : rd_T35 L (i : Int) = L[i] := getD_some (List.getElem?_eq_getElem hi)
    unfold okI
    rw [hx, h.ev _ (List.getElem_mem hi), Bool.true_and, Bool.and_eq_true]
    refine ⟨?_, ?_⟩
    · by_cases h0 : i = 0
      · rw [decide_eq_true h0, Bool.true_or]
      · have hp : rd_T35 L ((i : Int) - 1) = L[i - 1]'(by omega) := by
          rw [show (i : Int) - 1 = ((i - 1 : Nat) : Int) by omega]
          exact getD_some (List.getElem?_eq_getElem (by omega))
        rw [hp, ((List.pairwise_iff_getElem.1 h.pw) (i - 1) i (by omega) hi (by omega)).1, Bool.or_true]
    · rw [Bool.not_eq_true', List.any_eq_false]
      intro y hy
      obtain ⟨j, hj, rfl⟩ := List.getElem_of_mem hy
      rw [List.length_take] at hj
      have := ((List.pairwise_iff_getElem.1 h.pw) j i (by omega) hi (by omega)).2
      unfold clB
      rw [List.getElem_take]
      simp only [decide_eq_true_eq]
      intro ⟨h1, h2⟩
      have := this h1
      omega
  have key : ∀ d, d ≤ L.length → okR L d = true := by
    intro d
    induction d with
    | zero => intro _; rfl
    | succ d ih => intro hd; rw [okR, hr _ (by omega), ih (by omega)]; rfl
  unfold okB
  rw [decide_eq_true hl, key _ (Nat.le_refl _)]
  rfl
/-! ### the drawing -/
theorem place_ok {l : List Int} {L : List Ew} {s T T' : Int} (h : GoodL L s T) {e : Ew} (he : evB e = true) (h0 : e.f0 = s) (h2 : e.f2 = T) (h1 : 1 ≤ e.f1 ∧ e.f1 ≤ L.length + 1) (hq : ∀ y ∈ L, y.f0 = s → y.f1 < e.f1) (hT : T ≤ T') (hl : L.length ≤ 100) (n : Int) (a z : Int) :
    ∀ j, j ≤ L.length → (∀ y ∈ L.drop j, ahB e y = true) → ∃ L', GoodL L' s T' ∧ L'.length = L.length + 1 ∧ ∀ R, Ev (fun k => spec_l00Src_shopEvents.l1 k L' s T' (wrap64 (n - 1)) l a z) R → Ev (fun k => spec_l00Src_shopEvents.l3 k L s T' n (j : Int) l a z e.f0 e.f1 e.f2 e.f3 e.f4 e.f5) R
  | 0, hj, ha => by
    have hg := h.ins he h0 h2 h1 hq hT hj ha (fun y hy => by rw [List.take_zero] at hy; cases hy)
    refine ⟨_, hg, by simp, fun R hn => Ev.step (fun k => ?_) hn⟩
    simp only [spec_l00Src_shopEvents.l3, Option.bind_some, Int.toNat_natCast, List.nil_append]
    rw [if_neg (by omega), if_pos (ige _), if_pos (by omega)]
    simp only [List.length_nil, List.length_drop, List.length_take, List.length_append, List.length_singleton]
    rw [if_pos (by omega), if_pos (by omega), if_pos (by omega)]
  | j + 1, hj, ha => by
    have hjl : j < L.length := by omega
    have hw : wrap64 (((j + 1 : Nat) : Int) - 1) = (j : Int) := by rw [w64 (by omega) (by omega)]; omega
    have hr : rd_T35 L (j : Int) = L[j] := getD_some (List.getElem?_eq_getElem hjl)
    by_cases hc : ahB e L[j] = true
    · obtain ⟨L', g1, g2, g3⟩ := place_ok h he h0 h2 h1 hq hT hl n a z j (by omega) (fun y hy => by
        rw [List.drop_eq_getElem_cons hjl] at hy
        rcases List.mem_cons.1 hy with rfl | hy
        · exact hc
        · exact ha y hy)
      refine ⟨L', g1, g2, fun R hn => Ev.step (fun k => ?_) (g3 R hn)⟩
      simp only [spec_l00Src_shopEvents.l3, hw, hr, ahead_eq, Option.bind_some]
      rw [if_pos (by omega), if_pos (ige _), if_pos (ilt hjl), if_pos hc]
    · have hlast : ahB L[j] e = true := by
        rw [ah_iff] at hc ⊢
        have := hq L[j] (List.getElem_mem hjl)
        omega
      have hb : ∀ y ∈ L.take (j + 1), ahB y e = true := by
        intro y hy
        obtain ⟨i, hi, rfl⟩ := List.getElem_of_mem hy
        rw [List.length_take] at hi
        rw [List.getElem_take]
        by_cases hij : i = j
        · subst hij; exact hlast
        · have h3 := ((List.pairwise_iff_getElem.1 h.pw) i j (by omega) hjl (by omega)).1
          rw [ah_iff] at h3 hlast ⊢
          omega
      have hg := h.ins he h0 h2 h1 hq hT hj ha hb
      refine ⟨_, hg, by simp; omega, fun R hn => Ev.step (fun k => ?_) hn⟩
      simp only [spec_l00Src_shopEvents.l3, hw, hr, ahead_eq, Option.bind_some, List.nil_append]
      rw [if_pos (by omega), if_pos (ige _), if_pos (ilt hjl), if_neg hc, if_pos (by omega), if_pos (by omega)]
      simp only [show ((j + 1 : Nat) : Int).toNat = j + 1 from by omega, List.length_nil, List.length_drop, List.length_take, List.length_append, List.length_singleton]
      rw [if_pos (by omega), if_pos (by omega), if_pos (by omega)]
def seqQ (L : List Ew) (s q : Int) (i : Nat) : Prop := 1 ≤ q ∧ q ≤ L.length + 1 ∧ ∀ y ∈ L.take i, y.f0 = s → y.f1 < q
theorem evB_mk (s q T kd : Int) (nm : ByteArray) (am : Int) (hs : 1 ≤ s ∧ s ≤ 3) (hq : 1 ≤ q ∧ q ≤ 110) (hT : 0 ≤ T ∧ T ≤ 1000) (hn : nameB nm = true) (hk : (kd = 3 ∧ am = 0) ∨ ((kd = 1 ∨ kd = 2) ∧ 1 ≤ am ∧ am ≤ 40)) : evB (⟨s, q, T, kd, nm, am⟩ : Ew) = true := by
  unfold evB
  rw [if_pos (by unfold inB; dsimp only; omega)]
  dsimp only
  rw [hn, Bool.true_and]
  unfold amB
  dsimp only
  rcases hk with ⟨h1, h2⟩ | ⟨h1, h2⟩
  · rw [if_neg (by omega), if_pos h1]; exact decide_eq_true h2
  · rw [if_pos h1]; exact decide_eq_true (by omega)
theorem round_ok {l : List Int} (hl : Byt l) {s : Int} (hs : 1 ≤ s ∧ s ≤ 3) : ∀ (m : Nat) (L : List Ew) (T c a z : Int), GoodL L s T → 0 ≤ T → T + 4 * (m : Int) ≤ 100 → L.length + m ≤ 100 → c ≤ 1000 + 20 * (L.length : Int) → St c a z →
    ∃ L' T' a' z', GoodL L' s T' ∧ L'.length ≤ L.length + m ∧ St (c + 20 * (m : Int)) a' z' ∧ ∀ R, Ev (fun k => spec_l00Src_shopEvents.l0 k L' (wrap64 (s + 1)) l a' z') R → Ev (fun k => spec_l00Src_shopEvents.l1 k L s T (m : Int) l a z) R
  | 0, L, T, c, a, z, hg, hT0, hT, hL, hc, hst => by
    refine ⟨L, T, a, z, hg, by omega, by simpa using hst, fun R hn => Ev.step (fun k => ?_) hn⟩
    simp only [spec_l00Src_shopEvents.l1]
    rw [if_neg (by omega)]
  | m + 1, L, T, c, a, z, hg, hT0, hT, hL, hc, hst => by
    have scan : ∀ q, seqQ L s q 0 → ∃ L' T' a' z', GoodL L' s T' ∧ L'.length ≤ L.length + (m + 1) ∧ St (c + 20 * ((m + 1 : Nat) : Int)) a' z' ∧ ∀ R, Ev (fun k => spec_l00Src_shopEvents.l0 k L' (wrap64 (s + 1)) l a' z') R → Ev (fun k => spec_l00Src_shopEvents.l2 k L s T ((m + 1 : Nat) : Int) q ((0 : Nat) : Int) l a z) R := by
      refine down_list L (P := fun i => ∀ q, seqQ L s q i → ∃ L' T' a' z', GoodL L' s T' ∧ L'.length ≤ L.length + (m + 1) ∧ St (c + 20 * ((m + 1 : Nat) : Int)) a' z' ∧ ∀ R, Ev (fun k => spec_l00Src_shopEvents.l0 k L' (wrap64 (s + 1)) l a' z') R → Ev (fun k => spec_l00Src_shopEvents.l2 k L s T ((m + 1 : Nat) : Int) q (i : Int) l a z) R) ?_ ?_
      · intro q hq
        unfold seqQ at hq
        rw [List.take_length] at hq
        obtain ⟨t1, a1, z1, e1, p1, q1, i1⟩ := next_ok (n := 3) hl hst (by omega) (by omega)
        obtain ⟨t2, a2, z2, e2, p2, q2, i2⟩ := next_ok (n := 3) hl i1 (by omega) (by omega)
        obtain ⟨t3, a3, z3, e3, p3, q3, i3⟩ := next_ok (n := 40) hl i2 (by omega) (by omega)
        obtain ⟨t4, a4, z4, e4, p4, q4, i4⟩ := next_ok (n := 4) hl i3 (by omega) (by omega)
        have w1 : wrap64 (1 + t1) = 1 + t1 := w64 (by omega) (by omega)
        have w3 : wrap64 (1 + t3) = 1 + t3 := w64 (by omega) (by omega)
        have w4 : wrap64 (T + t4) = T + t4 := w64 (by omega) (by omega)
        have w5 : wrap64 (((m + 1 : Nat) : Int) - 1) = (m : Int) := by rw [w64 (by omega) (by omega)]; omega
        obtain ⟨nm, hnm, hnb⟩ : ∃ nm, rdOf ByteArray.empty [nmA, nmB, nmC] t2 = nm ∧ nameB nm = true := by
          have : t2 = 0 ∨ t2 = 1 ∨ t2 = 2 := by omega
          rcases this with rfl | rfl | rfl
          · exact ⟨_, rfl, okA⟩
          · exact ⟨_, rfl, okB'⟩
          · exact ⟨_, rfl, okC⟩
        have ep : spec_l00Src_pick.f l a1 z1 [(⟨#[97]⟩ : ByteArray), (⟨#[98]⟩ : ByteArray), (⟨#[208, 180, 208, 190, 208, 188]⟩ : ByteArray)] = some (nm, a2, z2) := by
          show spec_l00Src_pick.f l a1 z1 [nmA, nmB, nmC] = some (nm, a2, z2)
          unfold spec_l00Src_pick.f
          have el : (([nmA, nmB, nmC] : List ByteArray).length : Int) = 3 := rfl
          rw [el, if_neg (by decide), e2, Option.bind_some]
          dsimp only
          rw [if_pos p2, if_pos (by omega), hnm]
        have fin : ∀ am, ((1 + t1 = 3 ∧ am = 0) ∨ ((1 + t1 = 1 ∨ 1 + t1 = 2) ∧ 1 ≤ am ∧ am ≤ 40)) → ∃ L' T' a' z', GoodL L' s T' ∧ L'.length ≤ L.length + (m + 1) ∧ St (c + 20 * ((m + 1 : Nat) : Int)) a' z' ∧ ∀ R, Ev (fun k => spec_l00Src_shopEvents.l0 k L' (wrap64 (s + 1)) l a' z') R → Ev (fun k => spec_l00Src_shopEvents.j3 k L s T ((m + 1 : Nat) : Int) l a3 z3 s q T (1 + t1) nm am) R := by
          intro am ham
          have he := evB_mk s q T (1 + t1) nm am hs (by omega) (by omega) hnb ham
          obtain ⟨L1, g1, g2, g3⟩ := place_ok (l := l) (T' := T + t4) hg (e := ⟨s, q, T, 1 + t1, nm, am⟩) he rfl rfl ⟨by dsimp only; omega, by dsimp only; omega⟩ (fun y hy hs' => hq.2.2 y hy hs') (by omega) (by omega) ((m + 1 : Nat) : Int) a4 z4 L.length (Nat.le_refl _) (fun y hy => by rw [List.drop_length] at hy; cases hy)
          rw [w5] at g3
          obtain ⟨L', T', a', z', r1, r2, r3, r4⟩ := round_ok hl hs m L1 (T + t4) (c + 20) a4 z4 g1 (by omega) (by push_cast at hT; omega) (by omega) (by rw [g2]; push_cast; omega) ⟨i4.1, by have := i4.2.1; omega, i4.2.2⟩
          refine ⟨L', T', a', z', r1, by omega, ?_, fun R hn => Ev.step (fun k => ?_) (g3 R (r4 R hn))⟩
          · rw [show c + 20 * ((m + 1 : Nat) : Int) = c + 20 + 20 * (m : Int) by push_cast; omega]
            exact r3
          · simp only [spec_l00Src_shopEvents.j3, e4, Option.bind_some, w4]
        by_cases hk : 1 + t1 = 3
        · obtain ⟨L', T', a', z', r1, r2, r3, r4⟩ := fin 0 (.inl ⟨hk, rfl⟩)
          refine ⟨L', T', a', z', r1, r2, r3, fun R hn => Ev.step (fun k => ?_) (r4 R hn)⟩
          simp only [spec_l00Src_shopEvents.l2, e1, ep, e3, Option.bind_some, w1, w3]
          rw [if_neg (by omega), if_pos hk]
        · obtain ⟨L', T', a', z', r1, r2, r3, r4⟩ := fin (1 + t3) (.inr ⟨by omega, by omega, by omega⟩)
          refine ⟨L', T', a', z', r1, r2, r3, fun R hn => Ev.step (fun k => ?_) (r4 R hn)⟩
          simp only [spec_l00Src_shopEvents.l2, e1, ep, e3, Option.bind_some, w1, w3]
          rw [if_neg (by omega), if_neg hk]
      · intro i x hx hd ih q hq
        have hi := some_lt hx
        have hr : rd_T35 L (i : Int) = x := getD_some hx
        have hxm := hg.sq x (List.mem_of_getElem? hx)
        have hwi : wrap64 ((i : Int) + 1) = ((i + 1 : Nat) : Int) := wrap_succ hi (by unfold maxLen; omega)
        have hwx : wrap64 (x.f1 + 1) = x.f1 + 1 := w64 (by omega) (by omega)
        unfold seqQ at hq ih
        have ht : L.take (i + 1) = L.take i ++ [x] := by
          rw [List.take_succ_eq_append_getElem hi]
          rw [show L[i] = x from (List.getElem?_eq_some_iff.1 hx).2]
        rw [ht] at ih
        by_cases hs' : x.f0 = s
        · obtain ⟨L', T', a', z', r1, r2, r3, r4⟩ := ih (mx q (x.f1 + 1)) ⟨by unfold mx; split <;> omega, by unfold mx; split <;> omega, fun y hy hy0 => by
            rcases List.mem_append.1 hy with hy | hy
            · have := hq.2.2 y hy hy0
              unfold mx; split <;> omega
            · rw [List.mem_singleton.1 hy]
              unfold mx; split <;> omega⟩
          refine ⟨L', T', a', z', r1, r2, r3, fun R hn => Ev.step (fun k => ?_) (r4 R hn)⟩
          simp only [spec_l00Src_shopEvents.l2, hr, hwi, hwx]
          rw [if_pos (ilt hi), if_pos (ige _), if_pos hs']
        · obtain ⟨L', T', a', z', r1, r2, r3, r4⟩ := ih q ⟨hq.1, hq.2.1, fun y hy hy0 => by
            rcases List.mem_append.1 hy with hy | hy
            · exact hq.2.2 y hy hy0
            · rw [List.mem_singleton.1 hy] at hy0
              exact absurd hy0 hs'⟩
          refine ⟨L', T', a', z', r1, r2, r3, fun R hn => Ev.step (fun k => ?_) (r4 R hn)⟩
          simp only [spec_l00Src_shopEvents.l2, hr, hwi]
          rw [if_pos (ilt hi), if_pos (ige _), if_neg hs']
    obtain ⟨L', T', a', z', r1, r2, r3, r4⟩ := scan 1 ⟨by omega, by omega, fun y hy => by rw [List.take_zero] at hy; cases hy⟩
    refine ⟨L', T', a', z', r1, r2, r3, fun R hn => Ev.step (fun k => ?_) (r4 R hn)⟩
    simp only [spec_l00Src_shopEvents.l1]
    rw [if_pos (by omega)]
    rfl
end Go.Proofs.Ytoibmbkmpadmnaa.ZLedDaV
