/- Sorting: what stays true from tick to tick of the belt, in plain lists. -/
import Derived.Test.YtakpcpbhlohmiaaZSortK
namespace Go.Proofs.Ytakpcpbhlohmiaa.ZSortIK
open Go.RowKit Go.Proofs.Ytakpcpbhlohmiaa.K Go.Proofs.Ytakpcpbhlohmiaa.Lib Go.Proofs.Ytakpcpbhlohmiaa.ZSortK Go.Proofs.YtakpcpbhlohmiaaW.PrintWords Go.Proofs.YtakpcpbhlohmiaaW.PrintLast Go.Proofs.YtakpcpbhlohmiaaW.PrintMore

/-- How many of lane l left the belt in the span q. -/
def cnt (E l q : Int) : List Int → List Int → Nat
  | p :: P, o :: O => (if p = l ∧ 0 ≤ o ∧ o / E = q then 1 else 0) + cnt E l q P O
  | [], _ => 0
  | _ :: _, [] => 0
def neg : List Int → Nat
  | o :: O => (if o < 0 then 1 else 0) + neg O
  | [] => 0
def mu (rounds : List Int) : List Int → Nat
  | i :: b => (4 - rd rounds i).toNat + mu rounds b
  | [] => 0
theorem cnt_set {E l q t p : Int} (ht : 0 ≤ t) : ∀ (P O : List Int) (i : Nat), P[i]? = some p → O[i]? = some (-1) → cnt E l q P (O.set i t) = cnt E l q P O + (if p = l ∧ t / E = q then 1 else 0)
  | a :: P, o :: O, 0, hp, ho => by
    have e1 : a = p := by simpa using hp
    have e2 : o = -1 := by simpa using ho
    subst e1; subst e2
    simp only [List.set_cons_zero, cnt]
    rw [if_neg (show ¬ (a = l ∧ (0 : Int) ≤ -1 ∧ -1 / E = q) by omega)]
    by_cases h : a = l ∧ t / E = q
    · rw [if_pos h, if_pos ⟨h.1, ht, h.2⟩]; omega
    · rw [if_neg h, if_neg (fun g => h ⟨g.1, g.2.2⟩)]; omega
  | a :: P, o :: O, i + 1, hp, ho => by
    have := cnt_set (E := E) (l := l) (q := q) ht P O i (by simpa using hp) (by simpa using ho)
    simp only [List.set_cons_succ, cnt]
    omega
  | [], _, _, hp, _ => by simp at hp
  | _ :: _, [], _, _, ho => by simp at ho
theorem neg_set {t : Int} (ht : 0 ≤ t) : ∀ (O : List Int) (i : Nat), O[i]? = some (-1) → neg (O.set i t) + 1 = neg O
  | o :: O, 0, ho => by
    have e2 : o = -1 := by simpa using ho
    subst e2
    simp only [List.set_cons_zero, neg]
    rw [if_neg (by omega), if_pos (by omega)]; omega
  | o :: O, i + 1, ho => by
    have := neg_set ht O i (by simpa using ho)
    simp only [List.set_cons_succ, neg]
    omega
  | [], _, ho => by simp at ho
theorem neg_le : ∀ O : List Int, neg O ≤ O.length
  | [] => Nat.le_refl _
  | o :: O => by
    have := neg_le O
    simp only [neg, List.length_cons]
    split <;> omega
theorem cnt_zero {E l q : Int} : ∀ (P O : List Int), (∀ o ∈ O, 0 ≤ o → o / E ≠ q) → cnt E l q P O = 0
  | [], _, _ => rfl
  | _ :: _, [], _ => rfl
  | p :: P, o :: O, h => by
    simp only [cnt]
    rw [if_neg (fun g => h o (by simp) g.2.1 g.2.2), cnt_zero P O (fun o' ho' => h o' (by simp [ho']))]
theorem cnt_le (E l q : Int) : ∀ (P O : List Int), cnt E l q P O ≤ P.length
  | [], _ => Nat.le_refl _
  | _ :: _, [] => Nat.zero_le _
  | p :: P, o :: O => by
    have := cnt_le E l q P O
    simp only [cnt, List.length_cons]
    split <;> omega
theorem mu_app (r : List Int) (i : Int) : ∀ b, mu r (b ++ [i]) = mu r b + (4 - rd r i).toNat
  | [] => by simp [mu]
  | j :: b => by simp only [List.cons_append, mu, mu_app r i b]; omega
theorem rd_ne {r : List Int} {v w : Nat} {c : Int} (h : w ≠ v) : rd (r.set v c) (w : Int) = rd r (w : Int) := by
  show (r.set v c).getD ((w : Int)).toNat 0 = r.getD ((w : Int)).toNat 0
  rw [Int.toNat_natCast, List.getD_eq_getElem?_getD, List.getD_eq_getElem?_getD, List.getElem?_set_ne (by omega)]
theorem mu_set {r : List Int} {v : Nat} {c : Int} : ∀ b : List Int, (∀ i ∈ b, ∃ w : Nat, i = (w : Int) ∧ w ≠ v) → mu (r.set v c) b = mu r b
  | [], _ => rfl
  | i :: b, h => by
    obtain ⟨w, rfl, hw⟩ := h i (by simp)
    simp only [mu]
    rw [rd_ne hw, mu_set b (fun j hj => h j (by simp [hj]))]
theorem div_next {t E : Int} (hE : 1 ≤ E) (h : (t + 1) % E ≠ 0) : (t + 1) / E = t / E := by
  have h1 := Int.emod_nonneg (t + 1) (show E ≠ 0 by omega)
  have h2 := Int.emod_lt_of_pos (t + 1) (show 0 < E by omega)
  have h3 := Int.mul_ediv_add_emod (t + 1) E
  generalize (t + 1) % E = r at h h1 h2 h3
  generalize (t + 1) / E = q at h3 ⊢
  have e : t = (r - 1) + E * q := by omega
  rw [e, Int.add_mul_ediv_left _ _ (by omega), Int.ediv_eq_zero_of_lt (by omega) (by omega)]
  omega
theorem div_lt {o t E : Int} (hE : 1 ≤ E) (h : t % E = 0) (ho : o < t) : o / E ≠ t / E := by
  intro e
  have h3 := Int.mul_ediv_add_emod t E
  have h4 := Int.mul_ediv_add_emod o E
  have h5 := Int.emod_nonneg o (show E ≠ 0 by omega)
  rw [e] at h4
  omega
structure Valid (L : List Ln) (P : List Int) : Prop where
  n9 : L.length ≤ 9
  ln : ∀ x ∈ L, 1 ≤ x.f0 ∧ x.f0 ≤ 100 ∧ 1 ≤ x.f1 ∧ x.f1 ≤ 100
  p100 : P.length ≤ 100
  pl : ∀ p ∈ P, ∃ l : Nat, p = (l : Int) ∧ l < L.length
structure Inv (L : List Ln) (P belt held rounds out rej : List Int) (t rec : Int) : Prop where
  h1 : held.length = L.length
  h2 : rounds.length = P.length
  h3 : out.length = P.length
  bl : ∀ i ∈ belt, ∃ (v : Nat) (c : Int), i = (v : Int) ∧ out[v]? = some (-1) ∧ rounds[v]? = some c ∧ 0 ≤ c ∧ c ≤ 3
  nd : belt.Nodup
  ng : neg out = belt.length + rej.length
  tk : t + belt.length = P.length + rec
  rc : 0 ≤ rec
  t0 : 0 ≤ t
  ob : ∀ o ∈ out, o = -1 ∨ (0 ≤ o ∧ o < t)
  inj : ∀ (i j : Nat) (o : Int), out[i]? = some o → out[j]? = some o → 0 ≤ o → i = j
  room : ∀ (l : Nat) x, L[l]? = some x → ∀ q, (cnt x.f1 l q P out : Int) ≤ x.f0
  hd : ∀ (l : Nat) x, L[l]? = some x → t % x.f1 ≠ 0 → held[l]? = some (cnt x.f1 l (t / x.f1) P out : Int)
  mt : t + mu rounds belt ≤ 400
/-- At a tick, the lanes emptied: each lane has what left for it in this span. -/
theorem held_now {L : List Ln} {P belt held rounds out rej : List Int} {t rec : Int} (V : Valid L P) (I : Inv L P belt held rounds out rej t rec) {l : Nat} {x : Ln} (hx : L[l]? = some x) :
    (rst t L held)[l]? = some (cnt x.f1 l (t / x.f1) P out : Int) := by
  have hl := some_lt hx
  have hE := (V.ln x (List.mem_of_getElem? hx)).2.2.1
  have hh : held[l]? = some (held[l]'(by have := I.h1; omega)) := List.getElem?_eq_getElem (by have := I.h1; omega)
  rw [rst_get t L held l x _ hx hh, Int.tmod_eq_emod_of_nonneg I.t0]
  by_cases c : t % x.f1 = 0
  · rw [if_pos c, cnt_zero P out (fun o ho h0 => ?_)]
    · rfl
    · rcases I.ob o ho with h | h
      · omega
      · exact div_lt hE c h.2
  · rw [if_neg c, ← hh]
    exact I.hd l x hx c
section
variable {L : List Ln} {P rest held rounds out rej : List Int} {t rec c : Int} {v lane : Nat} {x : Ln}
theorem rest_ne (I : Inv L P ((v : Int) :: rest) held rounds out rej t rec) : ∀ i ∈ rest, ∃ w : Nat, i = (w : Int) ∧ w ≠ v := by
  intro i hi
  obtain ⟨w, d, rfl, _⟩ := I.bl i (by simp [hi])
  refine ⟨w, rfl, fun e => ?_⟩
  subst e
  exact (List.nodup_cons.1 I.nd).1 hi
theorem inv_A (V : Valid L P) (I : Inv L P ((v : Int) :: rest) held rounds out rej t rec) (hP : P[v]? = some (lane : Int)) (hx : L[lane]? = some x)
    (hlt : (cnt x.f1 lane (t / x.f1) P out : Int) < x.f0) :
    Inv L P rest ((rst t L held).set lane ((cnt x.f1 lane (t / x.f1) P out : Int) + 1)) rounds (out.set v t) rej (t + 1) rec := by
  obtain ⟨v', c, e, ho, hr, hc0, hc1⟩ := I.bl (v : Int) (by simp)
  obtain rfl : v = v' := by omega
  have hrn := rest_ne I
  have t0 := I.t0
  have hs := fun (E l q : Int) => cnt_set (E := E) (l := l) (q := q) t0 P out v hP ho
  have hgv := rd_set hr
  have hmt := I.mt
  have htk := I.tk
  have hng := I.ng
  have hns := neg_set t0 out v ho
  simp only [mu, List.length_cons] at hmt htk hng
  rw [hgv] at hmt
  refine ⟨by rw [List.length_set, rst_len]; exact I.h1, I.h2, by rw [List.length_set]; exact I.h3, fun i hi => ?_, (List.nodup_cons.1 I.nd).2, by omega, by omega, I.rc, by omega, fun o ho' => ?_, fun i j o hi hj h0 => ?_, fun l y hy q => ?_, fun l y hy hm => ?_, by omega⟩
  · obtain ⟨w, d, rfl, g1, g2⟩ := I.bl i (by simp [hi])
    obtain ⟨w', e', hw⟩ := hrn _ hi
    obtain rfl : w = w' := by omega
    exact ⟨w, d, rfl, by rw [List.getElem?_set_ne (by omega)]; exact g1, g2⟩
  · rcases List.mem_or_eq_of_mem_set ho' with h | h
    · rcases I.ob o h with h | h <;> omega
    · omega
  · rw [List.getElem?_set] at hi hj
    have hvl := some_lt ho
    have nt : ∀ k : Nat, out[k]? = some t → False := fun k hk => by rcases I.ob t (List.mem_of_getElem? hk) with h | h <;> omega
    by_cases c1 : v = i
    · rw [if_pos c1, if_pos (by omega)] at hi
      obtain rfl := Option.some.inj hi
      by_cases c2 : v = j
      · omega
      · rw [if_neg c2] at hj; exact (nt j hj).elim
    · rw [if_neg c1] at hi
      by_cases c2 : v = j
      · rw [if_pos c2, if_pos (by omega)] at hj
        obtain rfl := Option.some.inj hj
        exact (nt i hi).elim
      · rw [if_neg c2] at hj
        exact I.inj i j o hi hj h0
  · rw [hs]
    have hro := I.room l y hy q
    by_cases g : (lane : Int) = l ∧ t / y.f1 = q
    · obtain ⟨g1, g2⟩ := g
      obtain rfl : lane = l := by omega
      rw [hx] at hy
      obtain rfl := Option.some.inj hy
      subst g2
      rw [if_pos ⟨rfl, rfl⟩]
      omega
    · rw [if_neg g]; omega
  · have hE := (V.ln y (List.mem_of_getElem? hy)).2.2.1
    rw [div_next hE hm, hs]
    by_cases g : lane = l
    · subst g
      rw [hx] at hy
      obtain rfl := Option.some.inj hy
      rw [List.getElem?_set_self (by rw [rst_len, I.h1]; exact some_lt hx), if_pos ⟨rfl, rfl⟩]
      push_cast
      rfl
    · rw [List.getElem?_set_ne g, held_now V I hy, if_neg (by omega)]
      rfl
theorem inv_BC (V : Valid L P) {belt : List Int} (I : Inv L P belt held rounds out rej t rec) : ∀ (l : Nat) y, L[l]? = some y → (t + 1) % y.f1 ≠ 0 → (rst t L held)[l]? = some (cnt y.f1 l ((t + 1) / y.f1) P out : Int) := by
  intro l y hy hm
  rw [div_next (V.ln y (List.mem_of_getElem? hy)).2.2.1 hm]
  exact held_now V I hy
theorem inv_B (V : Valid L P) (I : Inv L P ((v : Int) :: rest) held rounds out rej t rec) :
    Inv L P rest (rst t L held) rounds out (rej ++ [(v : Int)]) (t + 1) rec := by
  obtain ⟨v', c, e, ho, hr, hc0, hc1⟩ := I.bl (v : Int) (by simp)
  obtain rfl : v = v' := by omega
  have hgv := rd_set hr
  have hmt := I.mt
  have htk := I.tk
  have hng := I.ng
  have t0 := I.t0
  simp only [mu, List.length_cons] at hmt htk hng
  rw [hgv] at hmt
  refine ⟨by rw [rst_len]; exact I.h1, I.h2, I.h3, fun i hi => I.bl i (by simp [hi]), (List.nodup_cons.1 I.nd).2, by rw [List.length_append, List.length_singleton]; omega, by omega, I.rc, by omega, fun o ho' => ?_, I.inj, I.room, inv_BC V I, by omega⟩
  rcases I.ob o ho' with h | h <;> omega
theorem inv_C (V : Valid L P) (I : Inv L P ((v : Int) :: rest) held rounds out rej t rec) (hr : rounds[v]? = some c) (hc : c ≠ 3) :
    Inv L P (rest ++ [(v : Int)]) (rst t L held) (rounds.set v (c + 1)) out rej (t + 1) (rec + 1) := by
  obtain ⟨v', c', e, ho, hr', hc0, hc1⟩ := I.bl (v : Int) (by simp)
  obtain rfl : v = v' := by omega
  rw [hr] at hr'
  obtain rfl := Option.some.inj hr'
  have hrn := rest_ne I
  have hgv := rd_set hr
  have hmt := I.mt
  have htk := I.tk
  have hng := I.ng
  have t0 := I.t0
  have rc := I.rc
  have hrl := some_lt hr
  have hgs : (rounds.set v (c + 1))[v]? = some (c + 1) := List.getElem?_set_self hrl
  simp only [mu, List.length_cons] at hmt htk hng
  rw [hgv] at hmt
  refine ⟨by rw [rst_len]; exact I.h1, by rw [List.length_set]; exact I.h2, I.h3, fun i hi => ?_, ?_, by rw [List.length_append, List.length_singleton]; omega, by rw [List.length_append, List.length_singleton]; omega, by omega, by omega, fun o ho' => ?_, I.inj, I.room, inv_BC V I, ?_⟩
  · rcases List.mem_append.1 hi with h | h
    · obtain ⟨w, d, rfl, g1, g2, g3⟩ := I.bl i (by simp [h])
      obtain ⟨w', e', hw⟩ := hrn _ h
      obtain rfl : w = w' := by omega
      exact ⟨w, d, rfl, g1, by rw [List.getElem?_set_ne (by omega)]; exact g2, g3⟩
    · rw [List.mem_singleton.1 h]
      exact ⟨v, c + 1, rfl, ho, hgs, by omega, by omega⟩
  · have hn := List.nodup_cons.1 I.nd
    exact List.nodup_append.2 ⟨hn.2, by simp, fun a ha b hb => by
      rw [List.mem_singleton.1 hb]; rintro rfl; exact hn.1 ha⟩
  · rcases I.ob o ho' with h | h <;> omega
  · rw [mu_app, mu_set rest hrn, rd_set hgs]
    omega
end
end Go.Proofs.Ytakpcpbhlohmiaa.ZSortIK
