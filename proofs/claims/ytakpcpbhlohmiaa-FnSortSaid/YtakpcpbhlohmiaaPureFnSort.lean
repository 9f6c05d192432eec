/- FnSort: of lanes and parcels that are drawn, by the program each parcel goes into its lane once or is rejected, no lane gets more in a span than it has room, and each tick one parcel leaves the belt.
   For every code of bytes that is no longer than the bound. -/
import Derived.Test.YtakpcpbhlohmiaaZSortRG
import Derived.Test.YtakpcpbhlohmiaaZDrawG
namespace Go.Proofs.Ytakpcpbhlohmiaa.Pure
open Go.RowKit Go.Proofs.Ytakpcpbhlohmiaa.G Go.Proofs.Ytakpcpbhlohmiaa.Lib Go.Proofs.Ytakpcpbhlohmiaa.ZDrawG Go.Proofs.Ytakpcpbhlohmiaa.ZSortG Go.Proofs.Ytakpcpbhlohmiaa.ZSortIG Go.Proofs.Ytakpcpbhlohmiaa.ZSortRG Go.Proofs.YtakpcpbhlohmiaaW.PrintWords Go.Proofs.YtakpcpbhlohmiaaW.PrintLast Go.Proofs.YtakpcpbhlohmiaaW.PrintMore

theorem byt_of {l : List Int} (h : ∀ y0 ∈ l, (Lit.int .u8 y0).wf = true) : Byt l := by
  intro y hy
  have := h y hy
  unfold Lit.wf at this
  rw [Bool.and_eq_true] at this
  exact ⟨of_decide_eq_true this.1, of_decide_eq_true this.2⟩
/-! ### what is drawn is right -/
theorem parcels_ok {l : List Int} (hl : Byt l) {L : List Ln} (hL : 1 ≤ L.length ∧ L.length ≤ 9) : ∀ (n : Nat) (P : List Int) (c a s : Int), P.length + n ≤ 100 → (∀ p ∈ P, ∃ i : Nat, p = (i : Int) ∧ i < L.length) → c + 3 * (n : Int) ≤ 1000 → St c a s →
    ∃ P', Ev (fun k => spec_ParcelsOf.l1 k L P (n : Int) l a s) (L, P') ∧ P'.length ≤ 100 ∧ ∀ p ∈ P', ∃ i : Nat, p = (i : Int) ∧ i < L.length := by
  intro n
  induction n with
  | zero =>
    intro P c a s hn hp _ _
    exact ⟨P, ev_succ (fun k => by simp only [spec_ParcelsOf.l1]; rw [if_neg (by omega)]), by omega, hp⟩
  | succ n ih =>
    intro P c a s hn hp hc hs
    obtain ⟨v, a1, s1, e1, p1, q1, i1⟩ := next_ok (n := (L.length : Int)) hl hs (by omega) (by omega)
    obtain ⟨m, rfl⟩ := Int.eq_ofNat_of_zero_le p1
    have w3 : wrap64 (((n + 1 : Nat) : Int) - 1) = (n : Int) := by rw [w64 (by omega) (by omega)]; omega
    obtain ⟨P', hE, h1, h2⟩ := ih (P ++ [(m : Int)]) (c + 3) a1 s1 (by rw [List.length_append, List.length_singleton]; omega) (fun p hp' => by
      rcases List.mem_append.1 hp' with h | h
      · exact hp p h
      · exact ⟨m, List.mem_singleton.1 h, by omega⟩) (by omega) i1
    refine ⟨P', Ev.step (fun k => ?_) hE, h1, h2⟩
    rw [spec_ParcelsOf.l1, if_pos (by omega), e1, Option.bind_some, if_pos (by omega), w3]
theorem lanes_ok {l : List Int} (hl : Byt l) : ∀ (n : Nat) (L : List Ln) (c a s : Int), L.length + n ≤ 9 → 1 ≤ L.length + n → (∀ x ∈ L, 1 ≤ x.f0 ∧ x.f0 ≤ 100 ∧ 1 ≤ x.f1 ∧ x.f1 ≤ 100) → c + 6 * (n : Int) ≤ 500 → St c a s →
    ∃ L' P', Ev (fun k => spec_ParcelsOf.l0 k L ((n : Int) - 1) l a s) (L', P') ∧ Valid L' P' := by
  intro n
  induction n with
  | zero =>
    intro L c a s h9 h1 hx hc hs
    obtain ⟨z, ez, hz, hz2⟩ := size_ok l a s 20
    obtain ⟨v, a1, s1, e1, p1, q1, i1⟩ := next_ok (n := wrap64 (z + 1)) hl hs (by omega) (by unfold wrap64; omega)
    have hv : v ≤ 20 := by
      rcases q1 with h | h
      · have : wrap64 (z + 1) ≤ 21 := by
          unfold wrap64 at h ⊢
          omega
        omega
      · omega
    obtain ⟨m, rfl⟩ := Int.eq_ofNat_of_zero_le p1
    obtain ⟨P', hE, g1, g2⟩ := parcels_ok hl ⟨by omega, by omega⟩ m [] (c + 3) a1 s1 (by simp; omega) (fun _ h => by cases h) (by omega) i1
    refine ⟨L, P', Ev.step (fun k => ?_) hE, ⟨by omega, hx, g1, g2⟩⟩
    rw [spec_ParcelsOf.l0, if_neg (by omega), ez, Option.bind_some, e1, Option.bind_some]
  | succ n ih =>
    intro L c a s h9 h1 hx hc hs
    obtain ⟨v, a1, s1, e1, p1, q1, i1⟩ := next_ok (n := 3) hl hs (by omega) (by omega)
    obtain ⟨u, a2, s2, e2, p2, q2, i2⟩ := next_ok (n := 9) hl i1 (by omega) (by omega)
    have w1 : wrap64 (1 + v) = 1 + v := w64 (by omega) (by omega)
    have w2 : wrap64 (1 + u) = 1 + u := w64 (by omega) (by omega)
    have w3 : wrap64 (((n + 1 : Nat) : Int) - 1 - 1) = (n : Int) - 1 := by rw [w64 (by omega) (by omega)]; omega
    obtain ⟨L', P', hE, hV⟩ := ih (L ++ [⟨1 + v, 1 + u⟩]) (c + 3 + 3) a2 s2 (by rw [List.length_append, List.length_singleton]; omega) (by rw [List.length_append, List.length_singleton]; omega) (fun x hx' => by
      rcases List.mem_append.1 hx' with h | h
      · exact hx x h
      · rw [List.mem_singleton.1 h]; show 1 ≤ 1 + v ∧ 1 + v ≤ 100 ∧ 1 ≤ 1 + u ∧ 1 + u ≤ 100; omega) (by omega) i2
    refine ⟨L', P', Ev.step (fun k => ?_) hE, hV⟩
    rw [spec_ParcelsOf.l0, if_pos (by omega), e1, Option.bind_some, e2, Option.bind_some, if_pos (by omega), w1, w2, w3]
theorem parcelsOf_ok {l : List Int} (hl : Byt l) : ∃ L P, Ev (fun k => spec_ParcelsOf.f k l) (L, P) ∧ Valid L P := by
  obtain ⟨s, e0, i0⟩ := source_ok (l := l)
  obtain ⟨v, a, s', e1, p1, q1, i1⟩ := next_ok (n := 4) hl i0 (by omega) (by omega)
  obtain ⟨n, rfl⟩ := Int.eq_ofNat_of_zero_le p1
  obtain ⟨L, P, hE, hV⟩ := lanes_ok hl (n + 1) [] 3 a s' (by simp; omega) (by omega) (fun _ h => by cases h) (by omega) i1
  refine ⟨L, P, ?_, hV⟩
  have e : (((n + 1 : Nat) : Int) - 1) = (n : Int) := by omega
  rw [e] at hE
  exact ev_same hE (fun k => by rw [spec_ParcelsOf.f, e0, Option.bind_some, e1, Option.bind_some])
/-! ### what the law counts -/
section
variable {L : List Ln} {P held rounds out rej : List Int} {t rec : Int}
theorem div_w {o E : Int} (h0 : 0 ≤ o) (h1 : o ≤ 1000) : wrap64 (Int.tdiv o E) = o / E := by
  rw [Int.tdiv_eq_ediv_of_nonneg h0]
  have h2 : (o / E).natAbs ≤ o.natAbs := by
    rw [← Int.tdiv_eq_ediv_of_nonneg h0, Int.natAbs_tdiv]
    exact Nat.div_le_self _ _
  exact w64 (by omega) (by omega)
theorem lane_ev (V : Valid L P) (I : Inv L P [] held rounds out rej t rec) {n : Int} {i lane : Nat} {o : Int} {x : Ln} (hP : P[i]? = some (lane : Int)) (ho : out[i]? = some o) (h0 : 0 ≤ o) (hx : L[lane]? = some x)
    (hend : Ev (fun k => laws_FnSort.l0 k L P n ((i : Int) + 1) t rec out rej) true) :
    Ev (fun k => laws_FnSort.l1 k L P n (i : Int) 0 ((0 : Nat) : Int) t rec out rej x.f0 x.f1) true := by
  have h3 := I.h3
  have p100 := V.p100
  have htk := I.tk
  have hmt := I.mt
  have hil := some_lt hP
  have hre : rd out (i : Int) = o := rd_set ho
  have hrp : rd P (i : Int) = (lane : Int) := rd_set hP
  have hE := (V.ln x (List.mem_of_getElem? hx)).2.2.1
  have hot : o < t := by rcases I.ob o (List.mem_of_getElem? ho) with h | h <;> omega
  have hob : o ≤ 1000 := by simp only [mu] at hmt; omega
  have wi : Aside0 (wrap64 ((i : Int) + 1) = (i : Int) + 1) := ⟨w64 (by omega) (by omega)⟩
  have key := down_list P (P := fun j => ∀ c : Int, 0 ≤ c → c ≤ j → c + (cnt x.f1 lane (o / x.f1) (P.drop j) (out.drop j) : Int) ≤ x.f0 → Ev (fun k => laws_FnSort.l1 k L P n (i : Int) c (j : Int) t rec out rej x.f0 x.f1) true) ?_ ?_
  · refine key 0 (by omega) (by omega) ?_
    have := I.room lane x hx (o / x.f1)
    simpa using this
  · intro c c0 c1 hc
    rw [List.drop_length, show (cnt x.f1 lane (o / x.f1) [] (out.drop P.length)) = 0 from rfl] at hc
    refine Ev.step (fun k => ?_) hend
    simp only [laws_FnSort.l1, wi.out]
    rw [if_neg (by omega), if_neg (by omega)]
  · intro j p hj hd ih c c0 c1 hc
    have hjl := some_lt hj
    have hjo : out[j]? = some (out[j]'(by omega)) := List.getElem?_eq_getElem (by omega)
    have hdo : out.drop j = out[j]'(by omega) :: out.drop (j + 1) := List.drop_eq_getElem_cons (by omega)
    generalize (out[j]'(by omega) : Int) = u at hjo hdo
    have hru : rd out (j : Int) = u := rd_set hjo
    have hrj : rd P (j : Int) = p := rd_set hj
    have ws : Aside0 (wrap64 ((j : Int) + 1) = ((j + 1 : Nat) : Int)) := ⟨wrap_succ hjl (by unfold maxLen; omega)⟩
    have wc : Aside0 (wrap64 (c + 1) = c + 1) := ⟨w64 (by omega) (by omega)⟩
    have hjz : (j : Int) < (out.length : Int) := by omega
    have hiz : (i : Int) < (out.length : Int) := by omega
    have hge : decide (o ≥ t) = false := decide_eq_false (by omega)
    have huo : u ≥ 0 → u ≤ 1000 := fun hu => by rcases I.ob u (List.mem_of_getElem? hjo) with h | h <;> (simp only [mu] at hmt; omega)
    have hE0 : ¬ x.f1 = 0 := by omega
    rw [hd, hdo, cnt] at hc
    -- behind the test: it counts, or not
    have go : Ev (fun k => laws_FnSort.j3 k L P n (i : Int) c (j : Int) false t rec out rej x.f0 x.f1) true := by
      by_cases hp : p = (lane : Int)
      · by_cases hu : u ≥ 0
        · by_cases hq : u / x.f1 = o / x.f1
          · rw [if_pos ⟨hp, hu, hq⟩] at hc
            refine Ev.step (f := fun k => laws_FnSort.l1 k L P n (i : Int) (c + 1) ((j + 1 : Nat) : Int) t rec out rej x.f0 x.f1) (fun k => ?_) (ih (c + 1) (by omega) (by omega) (by push_cast at hc ⊢; omega))
            simp only [laws_FnSort.j3, hrj, hrp, hru, hre, ws.out, wc.out]
            rw [if_neg (by simp), if_pos (ige _), if_pos (ilt hjl), if_pos (ige _), if_pos (ilt hil), if_pos hp, if_pos hjz, if_pos hu, if_neg hE0, if_pos hiz, div_w hu (huo hu), div_w h0 hob, if_pos hq]
          · rw [if_neg (fun g => hq g.2.2)] at hc
            refine Ev.step (f := fun k => laws_FnSort.l1 k L P n (i : Int) c ((j + 1 : Nat) : Int) t rec out rej x.f0 x.f1) (fun k => ?_) (ih c c0 (by omega) (by omega))
            simp only [laws_FnSort.j3, hrj, hrp, hru, hre, ws.out, wc.out]
            rw [if_neg (by simp), if_pos (ige _), if_pos (ilt hjl), if_pos (ige _), if_pos (ilt hil), if_pos hp, if_pos hjz, if_pos hu, if_neg hE0, if_pos hiz, div_w hu (huo hu), div_w h0 hob, if_neg hq]
        · rw [if_neg (fun g => hu g.2.1)] at hc
          refine Ev.step (f := fun k => laws_FnSort.l1 k L P n (i : Int) c ((j + 1 : Nat) : Int) t rec out rej x.f0 x.f1) (fun k => ?_) (ih c c0 (by omega) (by omega))
          simp only [laws_FnSort.j3, hrj, hrp, hru, hre, ws.out, wc.out]
          rw [if_neg (by simp), if_pos (ige _), if_pos (ilt hjl), if_pos (ige _), if_pos (ilt hil), if_pos hp, if_pos hjz, if_neg hu]
      · rw [if_neg (fun g => hp g.1)] at hc
        refine Ev.step (f := fun k => laws_FnSort.l1 k L P n (i : Int) c ((j + 1 : Nat) : Int) t rec out rej x.f0 x.f1) (fun k => ?_) (ih c c0 (by omega) (by omega))
        simp only [laws_FnSort.j3, hrj, hrp, hru, hre, ws.out, wc.out]
        rw [if_neg (by simp), if_pos (ige _), if_pos (ilt hjl), if_pos (ige _), if_pos (ilt hil), if_neg hp]
    clear hc
    refine Ev.step (fun k => ?_) go
    by_cases hij : j = i
    · subst hij
      simp only [laws_FnSort.l1, hre]
      rw [if_pos (ilt hjl), if_pos trivial, if_pos (ige _), if_pos hiz, hge]
    · have hne : ¬ u = o := fun e => hij (I.inj j i o (by rw [hjo, e]) ho h0)
      simp only [laws_FnSort.l1, hre, hru]
      rw [if_pos (ilt hjl), if_neg (by omega), if_pos (ige _), if_pos hjz, if_pos (ige _), if_pos hiz, if_neg hne, hge]
theorem all_lanes (V : Valid L P) (I : Inv L P [] held rounds out rej t rec) : Ev (fun k => laws_FnSort.l0 k L P 0 ((0 : Nat) : Int) t rec out rej) true := by
  have h3 := I.h3
  have p100 := V.p100
  have key := down_list P (P := fun i => ∀ n : Int, 0 ≤ n → n ≤ i → n + (neg (out.drop i) : Int) = (rej.length : Int) → Ev (fun k => laws_FnSort.l0 k L P n (i : Int) t rec out rej) true) ?_ ?_
  · refine key 0 (by omega) (by omega) ?_
    have := I.ng
    simp only [List.length_nil] at this
    simp only [List.drop_zero]
    omega
  · intro n n0 n1 hn
    rw [← h3, List.drop_length, show neg [] = 0 from rfl] at hn
    refine ev_succ (fun k => ?_)
    simp only [laws_FnSort.l0]
    rw [if_neg (by omega), show n = (rej.length : Int) by omega, beq_self_eq_true]
  · intro i p hi hd ih n n0 n1 hn
    have hil := some_lt hi
    obtain ⟨lane, rfl, hl⟩ := V.pl p (List.mem_of_getElem? hi)
    have hx : L[lane]? = some L[lane] := List.getElem?_eq_getElem hl
    generalize L[lane] = x at hx
    have hio : out[i]? = some (out[i]'(by omega)) := List.getElem?_eq_getElem (by omega)
    have hdo : out.drop i = out[i]'(by omega) :: out.drop (i + 1) := List.drop_eq_getElem_cons (by omega)
    generalize (out[i]'(by omega) : Int) = o at hio hdo
    have hro : rd out (i : Int) = o := rd_set hio
    have hrp : rd P (i : Int) = (lane : Int) := rd_set hi
    have hrx : rd_T32 L (lane : Int) = x := getD_some hx
    have ws : Aside0 (wrap64 ((i : Int) + 1) = ((i + 1 : Nat) : Int)) := ⟨wrap_succ hil (by unfold maxLen; omega)⟩
    have wn : Aside0 (wrap64 (n + 1) = n + 1) := ⟨w64 (by omega) (by omega)⟩
    rw [hdo, neg] at hn
    by_cases ho : o < 0
    · rw [if_pos ho] at hn
      refine Ev.step (f := fun k => laws_FnSort.l0 k L P (n + 1) ((i + 1 : Nat) : Int) t rec out rej) (fun k => ?_) (ih (n + 1) (by omega) (by omega) (by push_cast at hn ⊢; omega))
      simp only [laws_FnSort.l0, hro, ws.out, wn.out]
      rw [if_pos (ilt hil), if_pos (ige _), if_pos (by omega), if_pos ho]
    · rw [if_neg ho] at hn
      refine Ev.step (f := fun k => laws_FnSort.l1 k L P n (i : Int) 0 ((0 : Nat) : Int) t rec out rej x.f0 x.f1) (fun k => ?_) (lane_ev V I hi hio (by omega) hx (ev_eq (by simpa using ih n n0 (by omega) (by omega)) rfl))
      simp only [laws_FnSort.l0, hro, hrp, hrx]
      rw [if_pos (ilt hil), if_pos (ige _), if_pos (by omega), if_neg ho, if_pos (ige _), if_pos (ilt hl)]
      rfl
end
theorem FnSort : laws_FnSort.Pure := by
  intro l0 h0
  have hB := byt_of h0.2
  by_cases hl : (l0.length : Int) > 1048576
  · exact ⟨0, by unfold laws_FnSort.f; rw [if_pos hl]⟩
  · obtain ⟨L, P, eP, V⟩ := parcelsOf_ok hB
    obtain ⟨held, rounds, out, rej, t, rec, eS, I⟩ := sortRun_ev V
    have htk := I.tk
    have hmt := I.mt
    have hrc := I.rc
    have p100 := V.p100
    simp only [mu, List.length_nil] at hmt htk
    have hw : wrap64 ((P.length : Int) + rec) = (P.length : Int) + rec := w64 (by omega) (by omega)
    have hE : Ev (fun k => laws_FnSort.f k l0) true := by
      unfold laws_FnSort.f
      refine ev_neg hl (ev_bind eP (ev_bind eS ?_))
      show Ev (fun k => if (0 : Int) = 0 then (if (out.length : Int) = (P.length : Int) then laws_FnSort.j0 k L P (t != wrap64 ((P.length : Int) + rec)) t rec out rej else laws_FnSort.j0 k L P true t rec out rej) else laws_FnSort.j0 k L P true t rec out rej) true
      refine ev_pos rfl (ev_pos (by rw [I.h3]) ?_)
      rw [hw, show (t != (P.length : Int) + rec) = false by rw [bne_eq_false_iff_eq]; omega]
      refine Ev.step (fun k => ?_) (all_lanes V I)
      simp only [laws_FnSort.j0]
      rw [if_neg (by simp)]
      rfl
    exact Ev.rounds hE
end Go.Proofs.Ytakpcpbhlohmiaa.Pure
