-- squeezed
-- made by pp.py (wip/tools) out of the translation; Lean checks it
import Derived.Test.YtdohpbhljifodaaD0
import Derived.Test.YtdohpbhljifodaaD3
import Derived.Test.YtdohpbhljifodaaD4
namespace Go.Proofs.Ytdohpbhljifodaa.D
open Go.RowKit Go.Proofs.YtdohpbhljifodaaW.PrintWords Go.Proofs.YtdohpbhljifodaaW.PrintLast Go.Proofs.YtdohpbhljifodaaW.PrintMore
attribute [local go_sem] max2_int min2_int max_two min_two max_three min_three max_four min_four   -- for this text's walks alone
set_option linter.unusedVariables false
set_option linter.unusedSimpArgs false


/-! ### impl_Carts_do: function 24 -/
/- The built-in 'clear' over the rest of a row of the call's own: what is ahead of it stays. -/
theorem R_clear {α : Type} {d : Kd α} {e g n cap base m : Nat} {ok : Nat → Prop} {W : World} {xs : List α} (h : d.R e W base ok (.slice (some ⟨g, 0, none⟩) n cap) xs) (hm : m ≤ xs.length) (vs : List Value) (hv : m * d.sz + vs.length ≤ n * d.sz) :
  d.R e (W.setCells g (m * d.sz) vs) base ok (.slice (some ⟨g, 0, none⟩) m cap) (xs.take m) ∧ W.grownBy (W.setCells g (m * d.sz) vs) (some g) := by
 obtain ⟨hn0, hnc0, _⟩ := zx h
 obtain ⟨hok, inner, ho, hr⟩ := Kd.R_take h hm
 obtain ⟨ho1, ho2⟩ := ho
 rcases ho2 with ⟨hv', _⟩ | ⟨g', cap', cur, hv', hb, hh, hnc', hcm, hcs, ht⟩
 ·cases hv'
 injection hv' with ha hlen hc
 injection ha with ha
 injection ha with hg
 subst hg; subst hc
 have hfit : m * d.sz + vs.length ≤ cur.size := by
  have : n * d.sz ≤ cap * d.sz := Nat.mul_le_mul_right _ hnc0
  omega
 obtain ⟨cur', h3, h4, h5⟩ := setCells_row vs (m * d.sz) W cur hh hfit
 obtain ⟨s1, s2, s3, s4⟩ := setCells_same g vs (m * d.sz) W
 have hfar : ∀ k, k ≠ g → (W.setCells g (m * d.sz) vs).heap[k]? = W.heap[k]? := fun k hk => setCells_far vs _ k hk
 have hlm : (xs.take m).length = m := by rw [List.length_take, Nat.min_eq_left hm]
 refine ⟨⟨hok, inner, ⟨ho1, .inr ⟨g, cap, cur', by rw [hlm], hb, h3, hnc', hcm, by rw [h4, hcs], ?_⟩⟩, ?_⟩,
  ⟨s1, s2, s3, by rw [s4]; exact Nat.le_refl _, fun k _ hk => hfar k (fun he => hk (by rw [he]))⟩⟩
 ·rw [h5, ← ht, hlm]
  rw [List.append_assoc, List.take_append_of_le_length (by rw [List.length_take, Array.length_toList]; omega), List.take_take, Nat.min_self]
 ·refine ⟨hr.1, fun j p hj => d.M_mono (fun k hk => hk) (d.M_move (fun k hk => hfar k (fun he => hk.2 (by rw [he]; simp [Value.ownBlock]))) (hr.2 j p hj))⟩
theorem zc_len (z : Value) (n : Nat) : (Builtin.zeroCells z.cells n).toList.length = n * z.cells.size := by
 simp [Builtin.zeroCells]
theorem zc_one (z : Value) (h1 : ∀ v ∈ z.cells.toList, v.oneCell' = true) (n : Nat) : ∀ v ∈ (Builtin.zeroCells z.cells n).toList, v.oneCell' = true := by
 intro v hv
 rw [Builtin.zeroCells, Array.toList_map, List.mem_map] at hv
 obtain ⟨i, hi, rfl⟩ := hv
 rw [Array.toList_range, List.mem_range] at hi
 have hp : 0 < z.cells.size := by
  rcases Nat.eq_zero_or_pos z.cells.size with h | h
  ·rw [h, Nat.mul_zero] at hi; omega
  ·exact h
 have hlt : i % z.cells.size < z.cells.size := Nat.mod_lt _ hp
 apply h1
 rw [getElem!_pos z.cells (i % z.cells.size) hlt]
 simp
theorem run_clear_rows {P : Program} (w : World) (t e ty : TypeId) (z : Value) (ht : P.underlying t = some (.slice e)) (hv : ∀ w, (zeroValue e).run P w = .ok z w) (h1 : ∀ v ∈ z.cells.toList, v.oneCell' = true) (b o n c : Nat) (hn : 0 < n)
  (hc : ∀ j, j < n * z.cells.size → (w.cell? ⟨b, o + j, none⟩).isSome = true) (hf : ∀ j, j < n * z.cells.size → w.frozen? ⟨b, o + j, none⟩ = false) :
  (Builtin.clear_ #[t] ty #[.slice (some ⟨b, o, none⟩) n c]).run P w = .ok (.tuple #[]) (w.setCells b o (Builtin.zeroCells z.cells n).toList) := by
 have hst := run_storeCells_cells (P := P) b o (Builtin.zeroCells z.cells n).toList 0 w (by rw [zc_len]; simpa using hc) (by rw [zc_len]; simpa using hf) (zc_one z h1 n)
 simp only [Nat.add_zero] at hst
 obtain ⟨m, rfl⟩ : ∃ m, n = m + 1 := ⟨n - 1, by omega⟩
 simp [Builtin.clear_, run_underlying ht, hv, hst]
/-- A hold, as a value. -/
abbrev encH (h : S36) : Value := .agg #[.int .i64 h.f0, .int .i64 h.f1, .int .i64 h.f2]
/-- What a predicate on holds does when it is called: it turns nothing that lay. -/
def HoldsAt (w0 : World) (m : Nat) (lb : Array Value) (p : S36 → Bool) (Q : World → Prop) : Prop :=
 ∀ (W : World) (h : S36), Below w0.heap.size w0 W → Q W → Calls Try.prog m (#[encH h] ++ lb) W fun e W' => e = .returned (.bool (p h)) ∧ Below W.heap.size W W'
set_option maxHeartbeats 64000000 in
set_option maxRecDepth 100000 in
theorem holds38 (w0 : World) (xb : Nat) (x0 x1 x2 x3 : Int) : HoldsAt w0 38 #[.pointer (some ⟨xb, 0, none⟩)] (fun h => h.f0 == x1) (fun W => W.heap[xb]? = some (.cells #[.int .i64 x0, .int .i64 x1, .int .i64 x2, .int .i64 x3] 54 (0, 0))) := by
 intro W h hB hQ
 have hu36 := Try.underlying36
 have hcz1 : W.cell? ⟨xb, 1, none⟩ = some (.int .i64 x1) := (zb hQ 1).trans rfl
 have hfz1 := zd hQ 1
 have hlt := zac hQ
 obtain ⟨HQ, HW⟩ := zD2 hQ (Below.refl W.heap.size W)
 clear hQ
 go_enter Try.func38, Try.ntmps38
 go_wp2_with (first | ((with_reducible refine gate_dst (N := 2) rfl ?_); refine box_event ?hg (N := 2) ?hd (cs := #[.int .i64 h.f0, .int .i64 h.f1, .int .i64 h.f2]) (t := 36) ?hr ?_; (case hd => rfl); (case hg => rfl); (case hr => exact zH37); intro gb hg w10 hbox hb; have hcz2 : w10.cell? ⟨xb, 1, none⟩ = some (.int .i64 x1) := (zb (zu HQ.out hb) 1).trans rfl; have hfz2 := zd (zu HQ.out hb) 1; have hcb0 : w10.cell? ⟨gb, 0, none⟩ = some (.int .i64 h.f0) := (zb hbox 0).trans rfl; have hfb0 := zd hbox 0; have HW2 := za (zp HW.out hb); clear hbox hb hg))
 repeat (go_quiet (fail); try go_wp2)
 go_ret
 exact ⟨rfl, HW2.out⟩
set_option maxHeartbeats 64000000 in
set_option maxRecDepth 100000 in
theorem holds39 (w0 : World) (cb go : Nat) (now free sold : Int) (u : Value) : HoldsAt w0 39 #[.pointer (some ⟨cb, 0, none⟩)] (fun h => decide (h.f2 ≤ now)) (fun W => W.heap[cb]? = some (.cells #[.pointer (some ⟨go, 0, none⟩)] 70 (0, 0)) ∧ W.heap[go]? = some (.cells #[.int .i64 now, .int .i64 free, .int .i64 sold, u] 30 (0, 0))) := by
 intro W h hB hQ
 have hu36 := Try.underlying36
 obtain ⟨HQ, HW⟩ := zD2 hQ (Below.refl W.heap.size W)
 clear hQ
 go_enter Try.func39, Try.ntmps39
 go_wp2_with (first | ((with_reducible refine gate_dst (N := 2) rfl ?_); refine box_event ?hg (N := 2) ?hd (cs := #[.int .i64 h.f0, .int .i64 h.f1, .int .i64 h.f2]) (t := 36) ?hr ?_; (case hd => rfl); (case hg => rfl); (case hr => exact zH37); intro gb hg w10 hbox hb; have hcz2 : w10.cell? ⟨cb, 0, none⟩ = some (.pointer (some ⟨go, 0, none⟩)) := (zb (zu HQ.out.1 hb) 0).trans rfl; have hfz2 := zd (zu HQ.out.1 hb) 0; have hcz3 : w10.cell? ⟨go, 0, none⟩ = some (.int .i64 now) := (zb (zu HQ.out.2 hb) 0).trans rfl; have hfz3 := zd (zu HQ.out.2 hb) 0; have hcb2 : w10.cell? ⟨gb, 2, none⟩ = some (.int .i64 h.f2) := (zb hbox 2).trans rfl; have hfb2 := zd hbox 2; have HW2 := za (zp HW.out hb); clear hbox hb hg))
 repeat (go_quiet (fail); try go_wp2)
 go_ret
 exact ⟨rfl, by repeat (first | exact HW2.out | apply zc | apply ze)⟩
/-- The units so far, and one hold more. -/
abbrev sumU (p : S36 → Bool) (s : Int) (h : S36) : Int := if p h then wrap64 (s + h.f1) else s
structure Clo (w0 : World) (ok : Nat → Prop) (hb ub m : Nat) (lb : Array Value) (p : S36 → Bool) (Q : World → Prop) : Prop where
 eg : ∀ args w, (callFunc m args).run Try.prog w = .ok (.enter m args) w
 at_ : HoldsAt w0 m lb p Q
 keep : ∀ W W', Q W → Kept W W' (fun k => ok k ∨ k = ub) → Q W'
 okub : ∀ k, ok k → k ≠ ub
 okhb : ∀ k, ok k → k ≠ hb
 ne : hb ≠ ub
 ge : w0.heap.size ≤ ub
structure Sta (w0 : World) (hb ub m : Nat) (lb : Array Value) (Q : World → Prop) (s : Int) (W : World) : Prop where
 below : Below w0.heap.size w0 W
 q : Q W
 h : W.heap[hb]? = some (.cells #[.func (.func m) #[] lb] 73 (0, 0))
 u : W.heap[ub]? = some (.cells #[.int .i64 s] 3 (0, 0))
theorem Sta.next {w0 : World} {ok : Nat → Prop} {hb ub m : Nat} {lb : Array Value} {p : S36 → Bool} {Q : World → Prop} {s : Int} {W W' : World} (C : Clo w0 ok hb ub m lb p Q) (S : Sta w0 hb ub m lb Q s W) (hB : Below w0.heap.size w0 W') (hK : Kept W W' ok) : Sta w0 hb ub m lb Q s W' :=
 ⟨hB, C.keep _ _ S.q (hK.mono (fun _ h => .inl h)), zaf S.h hK (fun h => C.okhb _ h rfl), zaf S.u hK (fun h => C.okub _ h rfl)⟩
set_option maxHeartbeats 64000000 in
set_option maxRecDepth 100000 in
theorem clos43 {w0 : World} {ok : Nat → Prop} {hb ub m : Nat} {lb : Array Value} {p : S36 → Bool} {Q : World → Prop} (C : Clo w0 ok hb ub m lb p Q) (s : Int) (W : World) (h : S36) (S : Sta w0 hb ub m lb Q s W) :
  Calls Try.prog 43 #[encH h, .pointer (some ⟨hb, 0, none⟩), .pointer (some ⟨ub, 0, none⟩)] W fun e W' => e = .returned (.bool (p h)) ∧ Sta w0 hb ub m lb Q (sumU p s h) W' ∧ Kept W W' (fun k => k = ub) := by
 have hu36 := Try.underlying36
 obtain ⟨HS, CC, HK⟩ := zD3 S C (Kept.refl W (fun k => k = ub))
 have eg := C.eg
 have hlu := zac S.u
 have HP := C.at_
 clear S C
 cases hp : p h with
 | false =>
  go_enter Try.func43, Try.ntmps43
  go_wp2_with (first | ((with_reducible refine gate_dst (N := 3) rfl ?_); refine box_event ?hg (N := 3) ?hd (cs := #[.int .i64 h.f0, .int .i64 h.f1, .int .i64 h.f2]) (t := 36) ?hr ?_; (case hd => rfl); (case hg => rfl); (case hr => exact zH37); intro gb hg w10 hbox hb_; have HS2 := za (HS.out.next CC.out (zp HS.out.below hb_) (zy hb_ _)); have HK2 := za (HK.out.below hb_); have NB := za (show gb ≠ ub from by rw [hg]; exact Ne.symm (Nat.ne_of_lt hlu)); have BK := za hbox; have hcz2 : w10.cell? ⟨hb, 0, none⟩ = some (.func (.func m) #[] lb) := (zb HS2.out.h 0).trans rfl; have hfz2 := zd HS2.out.h 0; have hcb0 : w10.cell? ⟨gb, 0, none⟩ = some (.int .i64 h.f0) := (zb hbox 0).trans rfl; have hcb1 : w10.cell? ⟨gb, 1, none⟩ = some (.int .i64 h.f1) := (zb hbox 1).trans rfl; have hcb2 : w10.cell? ⟨gb, 2, none⟩ = some (.int .i64 h.f2) := (zb hbox 2).trans rfl; have hfb2 := zd hbox 2; clear hbox hb_ hg))
  have hc := HP w10 h HS2.out.below HS2.out.q
  rw [hp] at hc
  refine hc.mono ?_
  rintro e w' ⟨rfl, hb9⟩
  obtain ⟨HS3, HK3⟩ := zD2 (HS2.out.next CC.out (zp HS2.out.below hb9) (zy hb9 _)) (HK2.out.below hb9)
  clear hb9 hc
  go_wp2
  repeat (go_quiet (fail); try go_wp2)
  go_ret
  exact ⟨rfl, by simpa [sumU, hp] using HS3.out, HK3.out⟩
 | true =>
  go_enter Try.func43, Try.ntmps43
  go_wp2_with (first | ((with_reducible refine gate_dst (N := 3) rfl ?_); refine box_event ?hg (N := 3) ?hd (cs := #[.int .i64 h.f0, .int .i64 h.f1, .int .i64 h.f2]) (t := 36) ?hr ?_; (case hd => rfl); (case hg => rfl); (case hr => exact zH37); intro gb hg w10 hbox hb_; have HS2 := za (HS.out.next CC.out (zp HS.out.below hb_) (zy hb_ _)); have HK2 := za (HK.out.below hb_); have NB := za (show gb ≠ ub from by rw [hg]; exact Ne.symm (Nat.ne_of_lt hlu)); have BK := za hbox; have hcz2 : w10.cell? ⟨hb, 0, none⟩ = some (.func (.func m) #[] lb) := (zb HS2.out.h 0).trans rfl; have hfz2 := zd HS2.out.h 0; have hcb0 : w10.cell? ⟨gb, 0, none⟩ = some (.int .i64 h.f0) := (zb hbox 0).trans rfl; have hcb1 : w10.cell? ⟨gb, 1, none⟩ = some (.int .i64 h.f1) := (zb hbox 1).trans rfl; have hcb2 : w10.cell? ⟨gb, 2, none⟩ = some (.int .i64 h.f2) := (zb hbox 2).trans rfl; have hfb2 := zd hbox 2; clear hbox hb_ hg))
  have hc := HP w10 h HS2.out.below HS2.out.q
  rw [hp] at hc
  refine hc.mono ?_
  rintro e w' ⟨rfl, hb9⟩
  obtain ⟨HS3, HK3, BK3⟩ := zD3 (HS2.out.next CC.out (zp HS2.out.below hb9) (zy hb9 _)) (HK2.out.below hb9) (zu BK.out hb9)
  have hd1 : w'.cell? ⟨gb, 1, none⟩ = some (.int .i64 h.f1) := (zb BK3.out 1).trans rfl
  have hdu : w'.cell? ⟨ub, 0, none⟩ = some (.int .i64 s) := (zb HS3.out.u 0).trans rfl
  have hfu := zd HS3.out.u 0
  clear hb9 hc
  go_wp2
  repeat (go_quiet (fail); try go_wp2)
  go_ret
  have HKu : Kept w' (w'.setCell ⟨ub, 0, none⟩ (.int .i64 (wrap64 (s + h.f1)))) (fun k => k = ub) := Kept.setCell (p := ⟨ub, 0, none⟩) (Kept.refl w' (fun k => k = ub)) (.inl rfl) _
  refine ⟨rfl, ⟨zi HS3.out.below CC.out.ge, CC.out.keep _ _ HS3.out.q (HKu.mono (fun _ h => .inr h)), zaf HS3.out.h HKu CC.out.ne, ?_⟩, Kept.setCell (p := ⟨ub, 0, none⟩) HK3.out (.inl rfl) _⟩
  rw [sumU, hp]
  exact zr HS3.out.u 0 _ rfl
/-- The first hold of which p holds. -/
def firstP (p : S36 → Bool) : List S36 → Option Nat
 | [] => none
 | h :: l => if p h then some 0 else (firstP p l).map (· + 1)
theorem firstP_none {p : S36 → Bool} : ∀ {l : List S36}, (∀ i : Nat, i < l.length → p (l.getD i z36) = false) → firstP p l = none
 | [], _ => rfl
 | h :: l, H => by
  have h0 := H 0 (by simp)
  have h1 : firstP p l = none := firstP_none (fun i hi => by have := H (i + 1) (by simpa using hi); simpa using this)
  simp only [List.getD_cons_zero] at h0
  simp [firstP, h0, h1]
theorem firstP_some {p : S36 → Bool} : ∀ {l : List S36} {j : Nat}, j < l.length → (∀ i : Nat, i < j → p (l.getD i z36) = false) → p (l.getD j z36) = true → firstP p l = some j
 | [], j, hj, _, _ => absurd hj (by simp)
 | h :: l, 0, _, _, ht => by
  simp only [List.getD_cons_zero] at ht
  simp [firstP, ht]
 | h :: l, j + 1, hj, H, ht => by
  have h0 := H 0 (by omega)
  simp only [List.getD_cons_zero] at h0
  have h1 : firstP p l = some j := firstP_some (by simpa using hj) (fun i hi => by have := H (i + 1) (by omega); simpa using this) (by simpa using ht)
  simp [firstP, h0, h1]
/-- What IndexFunc hands back. -/
def idxP (p : S36 → Bool) (l : List S36) : Int := match firstP p l with | none => -1 | some j => (j : Int)
/-- The units behind IndexFunc. -/
def afterP (p : S36 → Bool) (s : Int) (l : List S36) : Int := match firstP p l with | none => s | some j => sumU p s (l.getD j z36)
set_option maxHeartbeats 64000000 in
set_option maxRecDepth 100000 in
theorem idx44 {w0 : World} {ok : Nat → Prop} {hb ub m : Nat} {lb : Array Value} {p : S36 → Bool} {Q : World → Prop} (C : Clo w0 ok hb ub m lb p Q) (s : Int) (W : World) (A : Option Addr) (c : Nat) (l : List S36) (HO : Kd.R k36 36 W w0.heap.size ok (.slice A l.length c) l) (S : Sta w0 hb ub m lb Q s W) :
  Calls Try.prog 44 #[.slice A l.length c, .func (.func 43) #[] #[.pointer (some ⟨hb, 0, none⟩), .pointer (some ⟨ub, 0, none⟩)]] W fun e W' => e = .returned (.int .i64 (idxP p l)) ∧ Sta w0 hb ub m lb Q (afterP p s l) W' ∧ Kept W W' (fun k => k = ub) := by
 have hu36 := Try.underlying36
 obtain ⟨HS, CC, HR, HL, HK⟩ := zD5 S C HO (Kd.C_max (zx HO).2.2) (Kept.refl W (fun k => k = ub))
 clear S C HO
 go_enter Try.func44, Try.ntmps44
 go_wp2
 go_loopg [8] l.length (fun kq v8 wr => ∃ x : Int, v8 = .int .i64 x ∧ 0 ≤ x ∧ x ≤ l.length ∧ l.length - x.toNat ≤ kq ∧ Aside0 (∀ j : Nat, j < x.toNat → p (l.getD j z36) = false) ∧ Aside0 (Sta w0 hb ub m lb Q s wr) ∧ Aside0 (Kept W wr (fun k => k = ub)))
 case atStart => exact ⟨0, rfl, by omega, by omega, by omega, ⟨fun j hj => by simp at hj⟩, ⟨HS.out⟩, ⟨HK.out⟩⟩
 case round =>
  obtain ⟨x, rfl, hx0, hil, hgk, HP, HS1, HK1⟩ := hrel
  by_cases hlt : x < (l.length : Int)
  ·have hltb := decide_eq_true hlt
   have HRr := za (zba HR.out (fun k hk hs => HK1.out.2 k hs (CC.out.okub k hk)))
   obtain ⟨ad, rfl, hc0, hc1, hc2⟩ := at_T36 (zx HRr.out).2.2 x hx0 hlt
   have HCL := za (clos43 CC.out s wr (rd_T36 l x) HS1.out)
   have p1 := hx0
   have q1 := hlt
   replace p1 := eq_true p1
   replace q1 := eq_true q1
   have HI := za hgk
   cases hp : p (rd_T36 l x) with
   | true =>
    rw [hp] at HCL
    have e1 : firstP p l = some x.toNat := firstP_some (by omega) HP.out hp
    obtain ⟨e2, E1⟩ := zD2 (show idxP p l = x from by rw [idxP, e1]; exact Int.toNat_of_nonneg hx0) (show afterP p s l = sumU p s (rd_T36 l x) from by rw [afterP, e1]; rfl)
    clear e1 hx0 hil hgk hlt
    go_wp2_with (go_at_call 43; refine (HCL.out).mono ?_; rintro e w' ⟨rfl, hs9, hk9⟩; have HS9 := za hs9; have HK9 := za (HK1.out.then_ hk9 (fun _ h => .inl h)); clear hs9 hk9)
    repeat (go_quiet (fail); try go_wp2)
    go_ret
    rw [e2.out, E1.out]
    exact ⟨rfl, HS9.out, HK9.out⟩
   | false =>
    rw [hp] at HCL
    go_wp2_with (go_at_call 43; refine (HCL.out).mono ?_; rintro e w' ⟨rfl, hs9, hk9⟩; have HS9 := za hs9; have HK9 := za (HK1.out.then_ hk9 (fun _ h => .inl h)); clear hs9 hk9)
    repeat (go_quiet (fail); try go_wp2)
    go_roundg (l.length - (x.toNat + 1))
    case measure => have := HI.out; omega
    case rel =>
     have hl1 : wrap64 (x + 1) = x + 1 := by have := HL.out; unfold wrap64; omega
     refine ⟨x + 1, by rw [hl1], by omega, by omega, by omega, ⟨fun j hj => ?_⟩, ⟨by have h9 := HS9.out; rw [sumU, hp] at h9; simpa using h9⟩, HK9⟩
     by_cases hjx : j < x.toNat
     ·exact HP.out j hjx
     ·have : j = x.toNat := by omega
      subst this
      exact hp
  ·have hltb := decide_eq_false hlt
   have e1 : firstP p l = none := firstP_none (fun i hi => HP.out i (by omega))
   obtain ⟨e2, E1⟩ := zD2 (show idxP p l = -1 from by rw [idxP, e1]) (show afterP p s l = s from by rw [afterP, e1])
   clear e1
   go_wp2
   repeat (go_quiet (fail); try go_wp2)
   go_ret
   rw [e2.out, E1.out]
   exact ⟨rfl, HS1.out, HK1.out⟩
theorem firstP_filter {p : S36 → Bool} : ∀ {l : List S36} {s : Int}, firstP p l = none → l.filter (fun h => !p h) = l ∧ l.foldl (sumU p) s = s
 | [], _, _ => ⟨rfl, rfl⟩
 | h :: l, s, e => by
  cases hp : p h with
  | true => simp [firstP, hp] at e
  | false =>
   have e1 : firstP p l = none := by
    simp only [firstP, hp, Bool.false_eq_true, if_false, Option.map_eq_none_iff] at e
    exact e
   obtain ⟨h1, h2⟩ := firstP_filter (s := s) e1
   refine ⟨by simp [hp, h1], by simp [sumU, hp, h2]⟩
theorem firstP_at {p : S36 → Bool} : ∀ {l : List S36} {k : Nat} {s : Int}, firstP p l = some k → k < l.length ∧ (l.take (k + 1)).filter (fun h => !p h) = l.take k ∧ (l.take (k + 1)).foldl (sumU p) s = sumU p s (l.getD k z36)
 | [], _, _, e => by simp [firstP] at e
 | h :: l, k, s, e => by
  cases hp : p h with
  | true =>
   simp only [firstP, hp, if_true] at e
   injection e with e
   subst e
   simp [hp]
  | false =>
   simp only [firstP, hp, Bool.false_eq_true, if_false, Option.map_eq_some_iff] at e
   obtain ⟨k1, e1, rfl⟩ := e
   obtain ⟨h1, h2, h3⟩ := firstP_at (s := s) e1
   refine ⟨by simpa using h1, by simp [hp, h2], ?_⟩
   simp only [List.take_succ_cons, List.foldl_cons, List.getD_cons_succ]
   rw [show sumU p s h = s from by simp [sumU, hp]]
   exact h3
/-- The row while DeleteFunc goes: i are kept, j are looked at. -/
structure KeptRow (p : S36 → Bool) (l L : List S36) (i j : Nat) : Prop where
 lt : i < j
 le : j ≤ l.length
 len : L.length = l.length
 low : L.take i = (l.take j).filter (fun h => !p h)
 high : L.drop j = l.drop j
theorem KeptRow.at_ {p : S36 → Bool} {l L : List S36} {i j : Nat} (h : KeptRow p l L i j) (hj : j < l.length) : L.getD j z36 = l.getD j z36 := by
 have e := congrArg (fun x => x.head?) h.high
 simp only [List.head?_drop] at e
 rw [List.getD_eq_getElem?_getD, List.getD_eq_getElem?_getD, e]
theorem take_succ_getD {l : List S36} {j : Nat} (hj : j < l.length) : l.take (j + 1) = l.take j ++ [l.getD j z36] := by
 rw [List.take_add_one, List.getElem?_eq_getElem hj, List.getD_eq_getElem?_getD, List.getElem?_eq_getElem hj]
 rfl
theorem KeptRow.skip {p : S36 → Bool} {l L : List S36} {i j : Nat} (h : KeptRow p l L i j) (hj : j < l.length) (hp : p (l.getD j z36) = true) : KeptRow p l L i (j + 1) :=
 ⟨by have := h.lt; omega, hj, h.len, by rw [take_succ_getD hj, List.filter_append, h.low]; simp only [List.filter_cons, hp, Bool.not_true, Bool.false_eq_true, if_false, List.filter_nil, List.append_nil], by
  have e := congrArg (List.drop 1) h.high
  simpa [List.drop_drop] using e⟩
theorem KeptRow.keep {p : S36 → Bool} {l L : List S36} {i j : Nat} (h : KeptRow p l L i j) (hj : j < l.length) (hp : p (l.getD j z36) = false) : KeptRow p l (L.set i (l.getD j z36)) (i + 1) (j + 1) := by
 have hi : i < L.length := by have := h.lt; have := h.len; omega
 refine ⟨by have := h.lt; omega, hj, by rw [List.length_set]; exact h.len, ?_, ?_⟩
 ·rw [take_succ_getD hj, List.filter_append, ← h.low]
  simp only [List.filter_cons, hp, Bool.not_false, if_true, List.filter_nil]
  rw [List.take_add_one, List.getElem?_set_self hi, List.take_set_of_le (Nat.le_refl _)]
  rfl
 ·rw [List.drop_set_of_lt (by have := h.lt; omega)]
  have e := congrArg (List.drop 1) h.high
  simpa [List.drop_drop] using e
theorem zero36 (w : World) : (zeroValue 36).run Try.prog w = .ok (.agg #[.int .i64 0, .int .i64 0, .int .i64 0]) w := by
 obtain ⟨i, hi, he⟩ := Option.map_eq_some_iff.mp info36
 simp only [Prod.mk.injEq] at he
 simp [zeroValue, typeInfo, hi, he.1]
theorem hold_cells {W : World} {base go n cap : Nat} {ok : Nat → Prop} {L : List S36} {i : Int} (hR : Kd.R k36 36 W base ok (.slice (some ⟨go, 0, none⟩) n cap) L) (h0 : 0 ≤ i) (h1 : i < n) :
  W.cell? ⟨go, i.toNat * 3, none⟩ = some (.int .i64 (rd_T36 L i).f0) ∧ W.cell? ⟨go, i.toNat * 3 + 1, none⟩ = some (.int .i64 (rd_T36 L i).f1) ∧ W.cell? ⟨go, i.toNat * 3 + 2, none⟩ = some (.int .i64 (rd_T36 L i).f2) ∧ ∀ j, W.frozen? ⟨go, i.toNat * 3 + j, none⟩ = false := by
 obtain ⟨ce, hcl, hM, hcc, hfr⟩ := Kd.R_elem hR z36 i h0 h1
 obtain rfl := k36_openM hM
 exact ⟨hcc 0 _ rfl, hcc 1 _ rfl, hcc 2 _ rfl, hfr⟩
theorem hold_put {W : World} {base go n cap : Nat} {ok : Nat → Prop} {L : List S36} {i : Int} (hR : Kd.R k36 36 W base ok (.slice (some ⟨go, 0, none⟩) n cap) L) (h0 : 0 ≤ i) (h1 : i < n) (h : S36) :
  Kd.R k36 36 (((W.setCell ⟨go, i.toNat * 3, none⟩ (.int .i64 h.f0)).setCell ⟨go, i.toNat * 3 + 1, none⟩ (.int .i64 h.f1)).setCell ⟨go, i.toNat * 3 + 2, none⟩ (.int .i64 h.f2)) base ok (.slice (some ⟨go, 0, none⟩) n cap) (L.set i.toNat h) := by
 obtain ⟨ce, hcl, hM, hcc, hfr⟩ := Kd.R_elem hR z36 i h0 h1
 obtain rfl := k36_openM hM
 exact (Kd.R_seg hR i h0 h1 (seg := [.int .i64 h.f0, .int .i64 h.f1, .int .i64 h.f2]) (j := 0) hcl hcc (show 3 ≤ 3 from by decide) (x' := h) (k36_mkM _ _ _ _) (fun _ hk => hk)).1
set_option maxHeartbeats 64000000 in
set_option maxRecDepth 100000 in
theorem del42 {w0 : World} {ok : Nat → Prop} {hb ub m : Nat} {lb : Array Value} {p : S36 → Bool} {Q : World → Prop} (C : Clo w0 ok hb ub m lb p Q) (s : Int) (W : World) (u : Value) (l : List S36) (HO : Kd.R k36 36 W w0.heap.size ok u l) (S : Sta w0 hb ub m lb Q s W) :
  Calls Try.prog 42 #[u, .func (.func 43) #[] #[.pointer (some ⟨hb, 0, none⟩), .pointer (some ⟨ub, 0, none⟩)]] W fun e W' => ∃ u' : Value, e = .returned u' ∧ Kd.R k36 36 W' w0.heap.size ok u' (l.filter fun h => !p h) ∧ Sta w0 hb ub m lb Q (l.foldl (sumU p) s) W' ∧ Kept W W' (fun k => ok k ∨ k = ub) := by
 have hu36 := Try.underlying36
 obtain ⟨A, c, rfl⟩ := zab HO
 obtain ⟨HS, CC, HR, HL, HX⟩ := zD5 S C HO (Kd.C_max (zx HO).2.2) (idx44 C s W A c l HO S)
 clear S C HO
 cases hf : firstP p l with
 | none =>
  obtain ⟨e1, e2⟩ := firstP_filter (s := s) hf
  obtain ⟨E1, E2⟩ := zD2 e1 e2
  have hx := HX.out
  rw [show idxP p l = -1 from by rw [idxP, hf], show afterP p s l = s from by rw [afterP, hf]] at hx
  have HX2 := za hx
  clear hx HX e1 e2 hf
  go_enter Try.func42, Try.ntmps42
  go_wp2_with (go_at_call 44; refine HX2.out.mono ?_; rintro e w' ⟨rfl, hs9, hk9⟩; have HS9 := za hs9; have HK9 := za hk9; clear hs9 hk9)
  repeat (go_quiet (fail); try go_wp2)
  go_ret
  rw [E1.out, E2.out]
  exact ⟨_, rfl, zba HR.out (fun k hk hs => HK9.out.2 k hs (CC.out.okub k hk)), HS9.out, HK9.out.mono (fun _ h => .inr h)⟩
 | some k0 =>
  obtain ⟨f1, f2, f3⟩ := firstP_at (s := s) hf
  have hx := HX.out
  rw [show idxP p l = (k0 : Int) from by rw [idxP, hf], show afterP p s l = (l.take (k0 + 1)).foldl (sumU p) s from by rw [afterP, hf, f3]] at hx
  have HX2 := za hx
  obtain ⟨go, c', e0, _⟩ := Kd.R_form HR.out (by omega)
  injection e0 with eA _ ec
  subst eA; subst ec
  obtain ⟨F1, F2⟩ := zD2 f1 f2
  clear hx HX hf f1 f2 f3
  have hne : ((k0 : Int) == -1) = false := beq_eq_false_iff_ne.mpr (by omega)
  have HK1 := za (show wrap64 ((k0 : Int) + 1) = (k0 : Int) + 1 from by have := HL.out; have := F1.out; unfold wrap64; omega)
  go_enter Try.func42, Try.ntmps42
  go_wp2_with (go_at_call 44; refine HX2.out.mono ?_; rintro e w' ⟨rfl, hs9, hk9⟩; have HS9 := za hs9; have HK9 := za hk9; have HR9 := za (zba HR.out (fun k hk hs => hk9.2 k hs (CC.out.okub k hk))); clear hs9 hk9)
  go_loopg [5, 6] l.length (fun kq v5 v6 wr => ∃ (x y s1 : Int) (L : List S36), v5 = .int .i64 x ∧ v6 = .int .i64 y ∧ 0 ≤ x ∧ x < y ∧ y ≤ l.length ∧ l.length - y.toNat ≤ kq ∧ Aside0 (KeptRow p l L x.toNat y.toNat) ∧ Aside0 (s1 = (l.take y.toNat).foldl (sumU p) s) ∧ Aside0 (Kd.R k36 36 wr w0.heap.size ok (.slice (some ⟨go, 0, none⟩) l.length c) L) ∧ Aside0 (Sta w0 hb ub m lb Q s1 wr) ∧ Aside0 (Kept W wr (fun k => ok k ∨ k = ub)))
  case atStart =>
   refine ⟨k0, k0 + 1, _, l, rfl, by rw [HK1.out], by omega, by omega, by have := F1.out; omega, by omega, ⟨⟨by omega, by have := F1.out; omega, rfl, ?_, rfl⟩⟩, ⟨rfl⟩, HR9, ⟨?_⟩, ⟨HK9.out.mono (fun _ h => .inr h)⟩⟩
   ·have := F2.out
    rw [show ((k0 : Int) + 1).toNat = k0 + 1 from by omega, show ((k0 : Int)).toNat = k0 from by omega, this]
   ·rw [show ((k0 : Int) + 1).toNat = k0 + 1 from by omega]
    exact HS9.out
  case round =>
   obtain ⟨x, y, s1, L, rfl, rfl, hx0, hxy, hyl, hgk, KR, ES, HRr, HSr, HKr⟩ := hrel
   obtain ⟨LL, HI⟩ := zD2 (KR.out.len) hgk
   by_cases hlt : y < (l.length : Int)
   ·have hltb := decide_eq_true hlt
    have hLL : L.length = l.length := LL.out
    have p1 : 0 ≤ y := by omega
    obtain ⟨hc0, hc1, hc2, hcf⟩ := hold_cells HRr.out p1 (by omega)
    have hat : rd_T36 L y = rd_T36 l y := KR.out.at_ (by omega)
    rw [hat] at hc0 hc1 hc2
    have hgl := Kd.R_lt HRr.out go rfl
    have p2 : x < (l.length : Int) := by omega
    have q1 := hlt
    obtain ⟨A0, A1, A2, P1⟩ := zD4 hx0 hxy hyl p1
    clear hat hLL hgk hxy hyl
    replace p1 := eq_true p1
    replace q1 := eq_true q1
    cases hp : p (rd_T36 l y) with
    | true =>
     go_wp2_with (first | ((with_reducible refine gate_dst (N := 7) rfl ?_); refine box_event ?hg (N := 7) ?hd (cs := #[.int .i64 0, .int .i64 0, .int .i64 0]) (t := 36) ?hr ?_; (case hd => rfl); (case hg => rfl); (case hr => exact zH37); intro gb hg w10 hbox hb_; have HB2 := za (zp HSr.out.below hb_); have HKB := za (zy hb_ (fun _ => False)); have GB := za (show w0.heap.size ≤ gb from by rw [hg]; exact HSr.out.below.size); have GW := za (show wr.heap.size ≤ gb from by rw [hg]; exact Nat.le_refl _); have BK := za hbox; have hcz0 : w10.cell? ⟨gb, 0, none⟩ = some (.int .i64 0) := (zb hbox 0).trans rfl; have hcz1 : w10.cell? ⟨gb, 1, none⟩ = some (.int .i64 0) := (zb hbox 1).trans rfl; have hcz2 : w10.cell? ⟨gb, 2, none⟩ = some (.int .i64 0) := (zb hbox 2).trans rfl; have hfz0 := zd hbox 0; have hfz1 := zd hbox 1; have hfz2 := zd hbox 2; clear hbox hb_ hg))
     obtain ⟨KK, HB3, BK3⟩ := zD3 (Kept.setCell (p := ⟨gb, 2, none⟩) (Kept.setCell (p := ⟨gb, 1, none⟩) (Kept.setCell (p := ⟨gb, 0, none⟩) HKB.out (.inr GW.out) (.int .i64 (rd_T36 l y).f0)) (.inr GW.out) (.int .i64 (rd_T36 l y).f1)) (.inr GW.out) (.int .i64 (rd_T36 l y).f2)) (zi (j := 2) (v := .int .i64 (rd_T36 l y).f2) (zi (j := 1) (v := .int .i64 (rd_T36 l y).f1) (zi (j := 0) (v := .int .i64 (rd_T36 l y).f0) HB2.out GB.out) GB.out) GB.out) (zr (zr (zr BK.out 0 (.int .i64 (rd_T36 l y).f0) rfl) 1 (.int .i64 (rd_T36 l y).f1) rfl) 2 (.int .i64 (rd_T36 l y).f2) rfl)
     have hc := clos43 CC.out s1 _ (rd_T36 l y) (HSr.out.next CC.out HB3.out (KK.out.mono (fun _ h => h.elim)))
     rw [hp] at hc
     refine hc.mono ?_
     rintro e w' ⟨rfl, hs9, hk9⟩
     obtain ⟨HS9, HKw⟩ := zD2 hs9 ((KK.out.mono (S' := fun k => k = ub) (fun _ h => h.elim)).then_ hk9 (fun _ h => .inl h))
     obtain ⟨HK9, HR9, BK9⟩ := zD3 (HKr.out.then_ HKw.out (fun _ h => .inl (.inr h))) (zba HRr.out (fun k hk hs => HKw.out.2 k hs (CC.out.okub k hk))) (zaf BK3.out hk9 (fun h => absurd (zac HSr.out.u) (by rw [← h]; exact Nat.not_lt.mpr GW.out)))
     clear hs9 hk9 hc
     go_wp2
     repeat (go_quiet (fail); try go_wp2)
     go_roundg (l.length - (y.toNat + 1))
     case measure => have := HI.out; omega
     case rel =>
      have y0 := P1.out
      have hl1 : wrap64 (y + 1) = y + 1 := by have := HL.out; unfold wrap64; omega
      refine ⟨x, y + 1, sumU p s1 (rd_T36 l y), L, rfl, by rw [hl1], A0.out, by have := A1.out; omega, by omega, by omega, ⟨?_⟩, ⟨?_⟩, HR9, HS9, HK9⟩
      ·rw [show (y + 1).toNat = y.toNat + 1 from by omega]
       exact KR.out.skip (by omega) hp
      ·rw [show (y + 1).toNat = y.toNat + 1 from by omega, take_succ_getD (by omega), List.foldl_append, ES.out]
       rfl
    | false =>
     go_wp2_with (first | ((with_reducible refine gate_dst (N := 7) rfl ?_); refine box_event ?hg (N := 7) ?hd (cs := #[.int .i64 0, .int .i64 0, .int .i64 0]) (t := 36) ?hr ?_; (case hd => rfl); (case hg => rfl); (case hr => exact zH37); intro gb hg w10 hbox hb_; have HB2 := za (zp HSr.out.below hb_); have HKB := za (zy hb_ (fun _ => False)); have GB := za (show w0.heap.size ≤ gb from by rw [hg]; exact HSr.out.below.size); have GW := za (show wr.heap.size ≤ gb from by rw [hg]; exact Nat.le_refl _); have BK := za hbox; have hcz0 : w10.cell? ⟨gb, 0, none⟩ = some (.int .i64 0) := (zb hbox 0).trans rfl; have hcz1 : w10.cell? ⟨gb, 1, none⟩ = some (.int .i64 0) := (zb hbox 1).trans rfl; have hcz2 : w10.cell? ⟨gb, 2, none⟩ = some (.int .i64 0) := (zb hbox 2).trans rfl; have hfz0 := zd hbox 0; have hfz1 := zd hbox 1; have hfz2 := zd hbox 2; clear hbox hb_ hg))
     obtain ⟨KK, HB3, BK3⟩ := zD3 (Kept.setCell (p := ⟨gb, 2, none⟩) (Kept.setCell (p := ⟨gb, 1, none⟩) (Kept.setCell (p := ⟨gb, 0, none⟩) HKB.out (.inr GW.out) (.int .i64 (rd_T36 l y).f0)) (.inr GW.out) (.int .i64 (rd_T36 l y).f1)) (.inr GW.out) (.int .i64 (rd_T36 l y).f2)) (zi (j := 2) (v := .int .i64 (rd_T36 l y).f2) (zi (j := 1) (v := .int .i64 (rd_T36 l y).f1) (zi (j := 0) (v := .int .i64 (rd_T36 l y).f0) HB2.out GB.out) GB.out) GB.out) (zr (zr (zr BK.out 0 (.int .i64 (rd_T36 l y).f0) rfl) 1 (.int .i64 (rd_T36 l y).f1) rfl) 2 (.int .i64 (rd_T36 l y).f2) rfl)
     have hc := clos43 CC.out s1 _ (rd_T36 l y) (HSr.out.next CC.out HB3.out (KK.out.mono (fun _ h => h.elim)))
     rw [hp] at hc
     refine hc.mono ?_
     rintro e w' ⟨rfl, hs9, hk9⟩
     obtain ⟨HS9, HKw⟩ := zD2 hs9 ((KK.out.mono (S' := fun k => k = ub) (fun _ h => h.elim)).then_ hk9 (fun _ h => .inl h))
     obtain ⟨HK9, HR9, BK9⟩ := zD3 (HKr.out.then_ HKw.out (fun _ h => .inl (.inr h))) (zba HRr.out (fun k hk hs => HKw.out.2 k hs (CC.out.okub k hk))) (zaf BK3.out hk9 (fun h => absurd (zac HSr.out.u) (by rw [← h]; exact Nat.not_lt.mpr GW.out)))
     clear hs9 hk9 hc
     obtain ⟨hx0_, hx1_, hx2_, hxf_⟩ := hold_cells HR9.out A0.out p2
     have hxf0 : w'.frozen? ⟨go, x.toNat * 3, none⟩ = false := hxf_ 0
     have hxf1 := hxf_ 1
     have hxf2 := hxf_ 2
     have hcy0 : w'.cell? ⟨gb, 0, none⟩ = some (.int .i64 (rd_T36 l y).f0) := (zb BK9.out 0).trans rfl
     have hcy1 : w'.cell? ⟨gb, 1, none⟩ = some (.int .i64 (rd_T36 l y).f1) := (zb BK9.out 1).trans rfl
     have hcy2 : w'.cell? ⟨gb, 2, none⟩ = some (.int .i64 (rd_T36 l y).f2) := (zb BK9.out 2).trans rfl
     have p3 := A0.out
     have q3 := p2
     replace p3 := eq_true p3
     replace q3 := eq_true q3
     go_wp2
     repeat (go_quiet (fail); try go_wp2)
     go_roundg (l.length - (y.toNat + 1))
     case measure => have := HI.out; omega
     case rel =>
      have y0 := P1.out
      have hl1 : wrap64 (y + 1) = y + 1 := by have := HL.out; unfold wrap64; omega
      have hl2 : wrap64 (x + 1) = x + 1 := by have := HL.out; have := A0.out; unfold wrap64; omega
      have hgo : ok go := HR9.out.1 go rfl
      have hgb : w0.heap.size ≤ go := zam HR9.out go rfl
      have hP := hold_put HR9.out A0.out p2 (rd_T36 l y)
      refine ⟨x + 1, y + 1, sumU p s1 (rd_T36 l y), L.set x.toNat (rd_T36 l y), by rw [hl2], by rw [hl1], by have := A0.out; omega, by have := A1.out; omega, by omega, by omega, ⟨?_⟩, ⟨?_⟩, ⟨hP⟩, ⟨?_⟩, ⟨?_⟩⟩
      ·rw [show (y + 1).toNat = y.toNat + 1 from by omega, show (x + 1).toNat = x.toNat + 1 from by have := A0.out; omega]
       exact KR.out.keep (by omega) hp
      ·rw [show (y + 1).toNat = y.toNat + 1 from by omega, take_succ_getD (by omega), List.foldl_append, ES.out]
       rfl
      ·exact HS9.out.next CC.out (zi (zi (zi HS9.out.below hgb) hgb) hgb) (Kept.setCell (p := ⟨go, _, none⟩) (Kept.setCell (p := ⟨go, _, none⟩) (Kept.setCell (p := ⟨go, _, none⟩) (Kept.refl w' ok) (.inl hgo) _) (.inl hgo) _) (.inl hgo) _)
      ·exact Kept.setCell (p := ⟨go, _, none⟩) (Kept.setCell (p := ⟨go, _, none⟩) (Kept.setCell (p := ⟨go, _, none⟩) HK9.out (.inl (.inl hgo)) _) (.inl (.inl hgo)) _) (.inl (.inl hgo)) _
   ·have hltb := decide_eq_false hlt
    have hyn : y = (l.length : Int) := by omega
    have p2 : x ≤ (l.length : Int) := by omega
    have p1 := hx0
    obtain ⟨A0, A1, A3⟩ := zD3 hx0 hxy hyn
    clear hxy hyl hgk hyn
    have hlx : x < (l.length : Int) := by have := A1.out; have := A3.out; omega
    have hnc : l.length ≤ c := (zx HRr.out).2.1
    have hxc : (x ≤ (c : Int)) = True := eq_true (by omega)
    have hcne : (c = x.toNat) = False := eq_false (by omega)
    have hgo : ok go := HRr.out.1 go rfl
    have hgb : w0.heap.size ≤ go := zam HRr.out go rfl
    have hcells : ∀ j, j < (l.length - x.toNat) * (Value.agg #[.int .i64 0, .int .i64 0, .int .i64 0]).cells.size → (wr.cell? ⟨go, x.toNat * 3 + j, none⟩).isSome = true := by
     intro j hj
     have hj' : j < (l.length - x.toNat) * 3 := hj
     obtain ⟨a0, a1, a2, _⟩ := hold_cells (i := ((x.toNat + j / 3 : Nat) : Int)) HRr.out (by omega) (by omega)
     rw [show ((x.toNat + j / 3 : Nat) : Int).toNat = x.toNat + j / 3 from by omega] at a0 a1 a2
     have h3 : j % 3 = 0 ∨ j % 3 = 1 ∨ j % 3 = 2 := by omega
     rcases h3 with h3 | h3 | h3
     ·rw [show x.toNat * 3 + j = (x.toNat + j / 3) * 3 from by omega, a0]; rfl
     ·rw [show x.toNat * 3 + j = (x.toNat + j / 3) * 3 + 1 from by omega, a1]; rfl
     ·rw [show x.toNat * 3 + j = (x.toNat + j / 3) * 3 + 2 from by omega, a2]; rfl
    obtain ⟨cells, hty⟩ := zat HRr.out go rfl
    have hcl := run_clear_rows (P := Try.prog) wr 28 36 0 (.agg #[.int .i64 0, .int .i64 0, .int .i64 0]) Try.underlying28 zero36 zG64 go (x.toNat * 3) (l.length - x.toNat) (c - x.toNat) (by omega) hcells (fun j _ => zd hty _)
    generalize hZ : (Builtin.zeroCells (Value.agg #[.int .i64 0, .int .i64 0, .int .i64 0]).cells (l.length - x.toNat)).toList = Z at hcl
    have hZl : x.toNat * 3 + Z.length ≤ l.length * 3 := by
     rw [← hZ, zc_len]
     show x.toNat * 3 + (l.length - x.toNat) * 3 ≤ l.length * 3
     omega
    have RC := za (R_clear (m := x.toNat) HRr.out (by have := LL.out; omega) Z hZl)
    have hlow := KR.out.low
    rw [A3.out, show ((l.length : Int)).toNat = l.length from by omega, List.take_length] at hlow
    obtain ⟨EL, HG, HO2⟩ := zD3 hlow hgb hgo
    clear hlow hZl hZ hcells hty hnc hgb hgo
    go_wp2
    repeat (go_quiet (fail); try go_wp2)
    go_ret
    have hBx := HSr.out.below.grown RC.out.2 HSr.out.below.size (fun k hk => by injection hk with hk; subst hk; exact HG.out)
    refine ⟨_, rfl, by rw [← EL.out]; exact RC.out.1, ?_, Kept.of_grown RC.out.2 HKr.out (fun k hk => by injection hk with hk; subst hk; exact .inl (.inl HO2.out))⟩
    have e1 := ES.out
    rw [A3.out, show ((l.length : Int)).toNat = l.length from by omega, List.take_length] at e1
    rw [← e1]
    exact HSr.out.next CC.out hBx (Kept.of_grown RC.out.2 (Kept.refl wr ok) (fun k hk => by injection hk with hk; subst hk; exact .inl HO2.out))
set_option maxHeartbeats 64000000 in
set_option maxRecDepth 100000 in
theorem rel37 {m : Nat} {lb : Array Value} {p : S36 → Bool} {Q : World → Prop} (eg : ∀ args w, (callFunc m args).run Try.prog w = .ok (.enter m args) w) (w0 W : World) (gi0 : Nat) (now free sold : Int) (u : Value) (l : List S36) (P : Nat → Prop)
  (hB : Below w0.heap.size w0 W) (hbk : W.heap[gi0]? = some (.cells #[.int .i64 now, .int .i64 free, .int .i64 sold, u] 30 (0, 0))) (hge : w0.heap.size ≤ gi0) (ho : Kd.R k36 36 W w0.heap.size P u l) (hQ : Q W) (hat : HoldsAt w0 m lb p Q)
  (hkeep : ∀ W1 W2, Q W1 → Kept W1 W2 (fun k => (∃ cells, W.heap[k]? = some (.cells cells 36 (0, 0))) ∨ W.heap.size ≤ k) → Q W2) :
  Calls Try.prog 37 #[.pointer (some ⟨gi0, 0, none⟩), .func (.func m) #[] lb] W fun e W' => ∃ v4 : Value, e = .returned (.tuple #[.int .i64 (l.foldl (sumU p) 0), .int .i64 (wrap64 ((l.length : Int) - ((l.filter fun h => !p h).length : Int)))]) ∧ Kd.R k36 36 W' w0.heap.size P v4 (l.filter fun h => !p h) ∧ W'.heap[gi0]? = some (.cells #[.int .i64 now, .int .i64 free, .int .i64 sold, v4] 30 (0, 0)) ∧ Below w0.heap.size w0 W' ∧ Kept W W' (fun k => P k ∨ k = gi0) := by
 have hu36 := Try.underlying36
 have hu30 := Try.underlying30
 obtain ⟨A, c, rfl⟩ := zab ho
 let ok : Nat → Prop := fun k => P k ∧ k < W.heap.size ∧ ∃ cells, W.heap[k]? = some (.cells cells 36 (0, 0))
 have hok : Kd.R k36 36 W w0.heap.size ok (.slice A l.length c) l := zn (Kd.R_bound ho) (fun k hk => by
  obtain ⟨h1, h2, h3, q, hq, hc⟩ := hk
  have hq36 : q = 36 := by rw [show k36.E = [] from rfl] at hq; simpa using hq
  subst hq36
  exact ⟨h1, h3, hc⟩)
 obtain ⟨HR, BK, HB, HQ, GE, HL, HN⟩ := zD7 hok hbk hB hQ hge (Kd.C_max (zx ho).2.2) (zac hbk)
 clear hQ hB hbk hge ho hok
 go_enter Try.func37, Try.ntmps37
 go_wp2_with (first | ((with_reducible refine gate_dst (N := 3) rfl ?_); refine box_event ?hg (N := 3) ?hd (cs := #[.func (.func m) #[] lb]) (t := 73) ?hr ?_; (case hd => rfl); (case hg => rfl); (case hr => exact zH37); intro hb hg w10 hbox hb_; have HB2 := za (zp HB.out hb_); have HK2 := za (zy hb_ (fun _ => False)); have GH := za (show W.heap.size ≤ hb from by rw [hg]; exact Nat.le_refl _); have BK2 := za (zu BK.out hb_); have BH2 := za hbox; have hcz3 : w10.cell? ⟨gi0, 3, none⟩ = some (.slice A l.length c) := (zb BK2.out 3).trans rfl; have hfz3 := zd BK2.out 3; clear hbox hb_ hg))
 have hal : (w10.alloc (.cells #[.int .i64 0] 3)).cell? ⟨gi0, 3, none⟩ = some (.slice A l.length c) := (zb (zg BK2.out _) 3).trans rfl
 go_region
 have GU : W.heap.size ≤ w10.heap.size := HK2.out.1
 have hC : Clo w0 ok hb w10.heap.size m lb p Q := ⟨eg, hat, fun W1 W2 q kk => hkeep W1 W2 q (kk.mono (by
  rintro k (⟨_, _, h⟩ | rfl)
  ·exact .inl h
  ·exact .inr GU)), fun k hk he => by have := hk.2.1; omega, fun k hk he => by have := hk.2.1; have := GH.out; omega, Nat.ne_of_lt (zac BH2.out), by have := HB.out.size; omega⟩
 have KA : Kept w10 (w10.alloc (.cells #[.int .i64 0] 3)).drew (fun _ => False) := Kept.drew (Kept.alloc (Kept.refl w10 _) _)
 have hS : Sta w0 hb w10.heap.size m lb Q 0 (w10.alloc (.cells #[.int .i64 0] 3)).drew := ⟨ze (zf HB2.out _), hkeep _ _ HQ.out ((HK2.out.then_ KA (fun _ h => h.elim)).mono (fun _ h => h.elim)), zaf BH2.out KA (fun h => h), zj (blk_new w10 _)⟩
 have hRc := zba HR.out (w1 := (w10.alloc (.cells #[.int .i64 0] 3)).drew) (fun k _ hs => (HK2.out.then_ KA (S := fun _ => False) (fun _ h => h.elim)).2 k hs (fun h => h))
 have hBc := zaf BK2.out KA (fun h => h)
 have hKc := HK2.out.then_ KA (S := fun _ => False) (fun _ h => h.elim)
 clear hal KA
 generalize (w10.alloc (.cells #[.int .i64 0] 3)).drew = wc at hS hRc hBc hKc ⊢
 generalize w10.heap.size = ub at GU hC hS ⊢
 obtain ⟨HC, HS, HRc, HBc, HKc, HGU⟩ := zD6 hC hS hRc hBc hKc GU
 have hca : wc.cell? ⟨gi0, 3, none⟩ = some (.slice A l.length c) := (zb HBc.out 3).trans rfl
 have hfa := zd HBc.out 3
 have NG := za (show ¬ (ok gi0 ∨ gi0 = ub) from by
  rintro (⟨_, _, cells, h⟩ | h)
  ·rw [BK.out] at h; injection h with h; injection h with _ h; exact absurd h zG64
  ·have := HN.out; omega)
 clear hC hS hRc hBc hKc GU
 go_wp2_with (go_at_call 42; refine (del42 HC.out 0 wc _ l HRc.out HS.out).mono ?_; rintro e w' ⟨u', rfl, hr9, hs9, hk9⟩; obtain ⟨A', c', rfl⟩ := zab hr9; have HR9 := za hr9; have HS9 := za hs9; have HK9 := za hk9; have BK9 := za (zaf HBc.out hk9 NG.out); have hcb : w'.cell? ⟨gi0, 3, none⟩ = some (.slice A l.length c) := (zb BK9.out 3).trans rfl; have hfb := zd BK9.out 3; clear hr9 hs9 hk9)
 have hN1 : ∀ j, ok j → j ≠ gi0 := fun j hj he => NG.out (.inl (he ▸ hj))
 have hB2 := zr BK9.out 3 (.slice A' (l.filter fun h => !p h).length c') rfl
 have hU2 := zak HS9.out.u (p := ⟨gi0, 3, none⟩) (fun he => NG.out (.inr (show gi0 = ub from he.symm))) (.slice A' (l.filter fun h => !p h).length c')
 have hR2 := zq HR9.out (p := ⟨gi0, 3, none⟩) hN1 (.slice A' (l.filter fun h => !p h).length c')
 have hW2 := zi (j := 3) (v := .slice A' (l.filter fun h => !p h).length c') HS9.out.below GE.out
 have hK2 : Kept W (w'.setCell ⟨gi0, 3, none⟩ (.slice A' (l.filter fun h => !p h).length c')) (fun k => P k ∨ k = gi0) := Kept.setCell (p := ⟨gi0, 3, none⟩) ((HKc.out.mono (S' := fun k => P k ∨ k = gi0) (fun _ h => h.elim)).then_ HK9.out (by
  rintro k (⟨h, _⟩ | rfl)
  ·exact .inl (.inl h)
  ·exact .inr HGU.out)) (.inl (.inr rfl)) _
 generalize w'.setCell ⟨gi0, 3, none⟩ (.slice A' (l.filter fun h => !p h).length c') = w2 at hB2 hU2 hR2 hW2 hK2 ⊢
 obtain ⟨B2, R2, W2, K2⟩ := zD4 hB2 (zn (ok' := P) hR2 (fun _ h => h.1)) hW2 hK2
 have hc1 : w2.cell? ⟨gi0, 3, none⟩ = some (.slice A' (l.filter fun h => !p h).length c') := (zb hB2 3).trans rfl
 have hc2 : w2.cell? ⟨ub, 0, none⟩ = some (.int .i64 (l.foldl (sumU p) 0)) := (zb hU2 0).trans rfl
 clear hB2 hU2 hR2 hW2 hK2 hN1
 repeat (go_quiet (fail); try go_wp2)
 go_ret2
 exact ⟨_, rfl, by (with_reducible repeat (first | apply zk | apply zm)); exact R2.out, by (with_reducible repeat (first | refine zh ?_ _ | refine zj ?_)); exact B2.out, by repeat (first | exact W2.out | apply zc | apply ze), by repeat (first | exact K2.out | apply Kept.drewN | apply Kept.drew)⟩
/-- Which holds of a cart stay, and the units of those that go. -/
def cartLeft (cart : Int) (l : List S36) : List S36 := l.filter fun h => !(h.f0 == cart)
def cartUnits (cart : Int) (l : List S36) : Int := l.foldl (sumU fun h => h.f0 == cart) 0
def timeLeft (now : Int) (l : List S36) : List S36 := l.filter fun h => !(decide (h.f2 ≤ now))
def timeUnits (now : Int) (l : List S36) : Int := l.foldl (sumU fun h => decide (h.f2 ≤ now)) 0
theorem enters38 (args : Array Value) (w : World) : (callFunc 38 args).run Try.prog w = .ok (.enter 38 args) w := by
 have hf := Try.func38
 have h1 : Try.f38.name ≠ "runtime.NumGoroutine" := by decide
 obtain ⟨c, hb⟩ : ∃ c, Try.f38.body = some c := ⟨_, rfl⟩
 simp [callFunc, hf, h1, hb, mark]
theorem enters39 (args : Array Value) (w : World) : (callFunc 39 args).run Try.prog w = .ok (.enter 39 args) w := by
 have hf := Try.func39
 have h1 : Try.f39.name ≠ "runtime.NumGoroutine" := by decide
 obtain ⟨c, hb⟩ : ∃ c, Try.f39.body = some c := ⟨_, rfl⟩
 simp [callFunc, hf, h1, hb, mark]
theorem keep_typed {W W1 W2 : World} {g t : Nat} {cs cs1 : Array Value} (hW : W.heap[g]? = some (.cells cs t (0, 0))) (ht : t ≠ 36) (h : W1.heap[g]? = some (.cells cs1 t (0, 0))) (hk : Kept W1 W2 (fun k => (∃ cells, W.heap[k]? = some (.cells cells 36 (0, 0))) ∨ W.heap.size ≤ k)) : W2.heap[g]? = some (.cells cs1 t (0, 0)) :=
 zaf h hk (by
  rintro (⟨cells, hc⟩ | hc)
  ·rw [hW] at hc; injection hc with hc; injection hc with _ hc; exact ht hc
  ·have := zac hW; omega)
theorem rel_cart (w0 W : World) (gi0 xb : Nat) (now free sold x0 x1 x2 x3 : Int) (u : Value) (l : List S36) (P : Nat → Prop)
  (hB : Below w0.heap.size w0 W) (hbk : W.heap[gi0]? = some (.cells #[.int .i64 now, .int .i64 free, .int .i64 sold, u] 30 (0, 0))) (hge : w0.heap.size ≤ gi0) (ho : Kd.R k36 36 W w0.heap.size P u l) (hx : W.heap[xb]? = some (.cells #[.int .i64 x0, .int .i64 x1, .int .i64 x2, .int .i64 x3] 54 (0, 0))) :
  Calls Try.prog 37 #[.pointer (some ⟨gi0, 0, none⟩), .func (.func 38) #[] #[.pointer (some ⟨xb, 0, none⟩)]] W fun e W' => ∃ v4 : Value, e = .returned (.tuple #[.int .i64 (cartUnits x1 l), .int .i64 (wrap64 ((l.length : Int) - ((cartLeft x1 l).length : Int)))]) ∧ Kd.R k36 36 W' w0.heap.size P v4 (cartLeft x1 l) ∧ W'.heap[gi0]? = some (.cells #[.int .i64 now, .int .i64 free, .int .i64 sold, v4] 30 (0, 0)) ∧ Below w0.heap.size w0 W' ∧ Kept W W' (fun k => P k ∨ k = gi0) :=
 rel37 (enters38) w0 W gi0 now free sold u l P hB hbk hge ho hx (holds38 w0 xb x0 x1 x2 x3) (fun W1 W2 q hk => keep_typed hx zG64 q hk)
theorem rel_time (w0 W : World) (gi0 cb : Nat) (now free sold : Int) (u : Value) (l : List S36) (P : Nat → Prop)
  (hB : Below w0.heap.size w0 W) (hbk : W.heap[gi0]? = some (.cells #[.int .i64 now, .int .i64 free, .int .i64 sold, u] 30 (0, 0))) (hge : w0.heap.size ≤ gi0) (ho : Kd.R k36 36 W w0.heap.size P u l) (hx : W.heap[cb]? = some (.cells #[.pointer (some ⟨gi0, 0, none⟩)] 70 (0, 0))) :
  Calls Try.prog 37 #[.pointer (some ⟨gi0, 0, none⟩), .func (.func 39) #[] #[.pointer (some ⟨cb, 0, none⟩)]] W fun e W' => ∃ v4 : Value, e = .returned (.tuple #[.int .i64 (timeUnits now l), .int .i64 (wrap64 ((l.length : Int) - ((timeLeft now l).length : Int)))]) ∧ Kd.R k36 36 W' w0.heap.size P v4 (timeLeft now l) ∧ W'.heap[gi0]? = some (.cells #[.int .i64 now, .int .i64 free, .int .i64 sold, v4] 30 (0, 0)) ∧ Below w0.heap.size w0 W' ∧ Kept W W' (fun k => P k ∨ k = gi0) :=
 rel37 (enters39) w0 W gi0 now free sold u l P hB hbk hge ho ⟨hx, hbk⟩ (holds39 w0 cb gi0 now free sold u) (fun W1 W2 q hk => ⟨keep_typed hx zG64 q.1 hk, keep_typed hbk zG64 q.2 hk⟩)
def impl_Carts_do.f (k : Nat) (a0_0 : Int) (a0_1 : Int) (a0_2 : Int) (l0_3 : List (S36)) (a1_0 : Int) (a1_1 : Int) (a1_2 : Int) (a1_3 : Int) : Option (Int × Int × Int × Int × (List (S36))) :=
 if a1_0 = 1 then impl_Carts_hold.f k a0_0 a0_1 a0_2 l0_3 a1_0 a1_1 a1_2 a1_3
 else if a1_0 = 2 ∨ a1_0 = 3 then
  (if a1_1 < 1 then some (5, a0_0, a0_1, a0_2, l0_3)
  else if wrap64 ((l0_3.length : Int) - ((cartLeft a1_1 l0_3).length : Int)) = 0 then some (8, a0_0, a0_1, a0_2, cartLeft a1_1 l0_3)
  else if a1_0 = 2 then some (0, a0_0, a0_1, wrap64 (a0_2 + cartUnits a1_1 l0_3), cartLeft a1_1 l0_3)
  else some (0, a0_0, wrap64 (a0_1 + cartUnits a1_1 l0_3), a0_2, cartLeft a1_1 l0_3))
 else if a1_0 = 4 then
  (impl_within.f a1_3 0 10000).bind fun t =>
   if t = true then some (0, wrap64 (a0_0 + a1_3), wrap64 (a0_1 + timeUnits (wrap64 (a0_0 + a1_3)) l0_3), a0_2, timeLeft (wrap64 (a0_0 + a1_3)) l0_3)
   else some (5, a0_0, a0_1, a0_2, l0_3)
 else some (13, a0_0, a0_1, a0_2, l0_3)
theorem impl_Carts_do.mono : ∀ a0_0 a0_1 a0_2 l0_3 a1_0 a1_1 a1_2 a1_3 k, LeO (impl_Carts_do.f k a0_0 a0_1 a0_2 l0_3 a1_0 a1_1 a1_2 a1_3) (impl_Carts_do.f (k + 1) a0_0 a0_1 a0_2 l0_3 a1_0 a1_1 a1_2 a1_3) := by
 intro a0_0 a0_1 a0_2 l0_3 a1_0 a1_1 a1_2 a1_3 k
 unfold impl_Carts_do.f
 split
 ·exact impl_Carts_hold.mono _ _ _ _ _ _ _ _ _
 ·exact fun _ h => h
set_option maxHeartbeats 16000000 in
set_option maxRecDepth 100000 in
theorem impl_Carts_do.calls (k : Nat) (gi0 : Nat) (a0_0 : Int) (a0_1 : Int) (a0_2 : Int) (P0_3_ : Nat → Prop) (u9000_ : Value) (l0_3 : List (S36)) (a1_0 : Int) (a1_1 : Int) (a1_2 : Int) (a1_3 : Int) (r1 : Int) (r2 : Int) (r3 : Int) (r4 : Int) (r5 : List (S36)) (w0 w : World) (hB : Below w0.heap.size w0 w) (hbk0 : w.heap[gi0]? = some (.cells #[.int .i64 a0_0, .int .i64 a0_1, .int .i64 a0_2, u9000_] 30 (0, 0))) (hge0 : w0.heap.size ≤ gi0) (ho0_3 : Kd.R k36 36 w w0.heap.size P0_3_ u9000_ l0_3) (h : impl_Carts_do.f k a0_0 a0_1 a0_2 l0_3 a1_0 a1_1 a1_2 a1_3 = some (r1, r2, r3, r4, r5)) :
  Calls Try.prog 24 #[.pointer (some ⟨gi0, 0, none⟩), .agg #[.int .i64 a1_0, .int .i64 a1_1, .int .i64 a1_2, .int .i64 a1_3]] w fun e w' => ∃ v4_ : Value, e = .returned (.int .i64 r1) ∧ Kd.R k36 36 w' w0.heap.size (fun k_ => (P0_3_ k_ ∨ w.heap.size ≤ k_)) v4_ r5 ∧ w'.heap[gi0]? = some (.cells #[.int .i64 r2, .int .i64 r3, .int .i64 r4, v4_] 30 (0, 0)) ∧ Below w0.heap.size w0 w' ∧ Kept w w' (fun k_ => (P0_3_ k_) ∨ k_ = gi0) := by
 have hu30 := Try.underlying30
 have hu36 := Try.underlying36
 have hu54 := Try.underlying54
 obtain ⟨A, c, rfl⟩ := zab ho0_3
 obtain ⟨HR, BK, HB, GE, HN⟩ := zD5 (show Kd.R k36 36 w w0.heap.size (fun k => P0_3_ k ∧ k < w.heap.size) (.slice A l0_3.length c) l0_3 from zn (Kd.R_bound ho0_3) (fun k hk => ⟨hk.1, hk.2.2.1⟩)) hbk0 hB hge0 (zac hbk0)
 clear hB hbk0 hge0 ho0_3
 unfold impl_Carts_do.f at h
 by_cases k1 : a1_0 = 1
 ·subst k1
  rw [if_pos rfl] at h
  have HH := za h
  clear h
  go_enter Try.func24, Try.ntmps24
  go_wp2_with (first | ((with_reducible refine gate_dst (N := 2) rfl ?_); refine box_event ?hg (N := 2) ?hd (cs := #[.pointer (some ⟨gi0, 0, none⟩)]) (t := 70) ?hr ?_; (case hd => rfl); (case hg => rfl); (case hr => exact zH37); intro cb hg w10 hbox hb_; have HB2 := za (zp HB.out hb_); have HK2 := za (zy hb_ (fun _ => False)); have BK2 := za (zu BK.out hb_); have HR2 := za (zt HR.out hb_); have BC2 := za hbox; have CBN := za (show ¬ ((P0_3_ cb ∧ cb < w.heap.size) ∨ cb = gi0) from by rw [hg]; rintro (⟨_, h⟩ | h); exact Nat.lt_irrefl _ h; exact Nat.ne_of_gt HN.out h); clear hbox hb_ hg) | ((with_reducible refine gate_dst (N := 3) rfl ?_); refine box_event ?hg (N := 3) ?hd (cs := #[.int .i64 1, .int .i64 a1_1, .int .i64 a1_2, .int .i64 a1_3]) (t := 54) ?hr ?_; (case hd => rfl); (case hg => rfl); (case hr => exact zH37); intro xb hg w11 hbox hb_; have HB3 := za (zp HB2.out hb_); have HK3 := za (HK2.out.below hb_); have BK3 := za (zu BK2.out hb_); have HR3 := za (zt HR2.out hb_); have BC3 := za (zu BC2.out hb_); have BX3 := za hbox; have XBN := za (show ¬ ((P0_3_ xb ∧ xb < w.heap.size) ∨ xb = gi0) from by rw [hg]; rintro (⟨_, h⟩ | h); exact absurd h (Nat.not_lt.mpr HK2.out.1); exact Nat.ne_of_gt (Nat.lt_of_lt_of_le HN.out HK2.out.1) h); have hx0 : w11.cell? ⟨xb, 0, none⟩ = some (.int .i64 1) := (zb hbox 0).trans rfl; have hx1 : w11.cell? ⟨xb, 1, none⟩ = some (.int .i64 a1_1) := (zb hbox 1).trans rfl; have hx2 : w11.cell? ⟨xb, 2, none⟩ = some (.int .i64 a1_2) := (zb hbox 2).trans rfl; have hx3 : w11.cell? ⟨xb, 3, none⟩ = some (.int .i64 a1_3) := (zb hbox 3).trans rfl; have hcc : w11.cell? ⟨cb, 0, none⟩ = some (.pointer (some ⟨gi0, 0, none⟩)) := (zb BC3.out 0).trans rfl; have hg0 : w11.cell? ⟨gi0, 0, none⟩ = some (.int .i64 a0_0) := (zb BK3.out 0).trans rfl; have hfg := zd BK3.out 0; clear hbox hb_ hg) | (go_at_call 36; refine (impl_Carts_hold.calls k gi0 a0_0 a0_1 a0_2 (fun k => P0_3_ k ∧ k < w.heap.size) _ l0_3 1 a1_1 a1_2 a1_3 r1 r2 r3 r4 r5 w0 w11 HB3.out BK3.out GE.out HR3.out HH.out).mono ?_; rintro e w' ⟨v4_, rfl, hr9, hb9, hw9, hk9⟩; have HR9 := za hr9; have HB9 := za hb9; have HW9 := za hw9; have HK9 := za hk9; clear hr9 hb9 hw9 hk9))
  go_ret
  exact ⟨v4_, rfl, zn HR9.out (fun k hk => hk.imp (fun h => h.1) (fun h => Nat.le_trans HK3.out.1 h)), HB9.out, HW9.out, (HK3.out.mono (fun _ h => h.elim)).then_ HK9.out (fun _ h => .inl (h.imp (fun h => h.1) id))⟩
 rw [if_neg k1] at h
 have e1 : (a1_0 == 1) = false := beq_eq_false_iff_ne.mpr k1
 by_cases k23 : a1_0 = 2 ∨ a1_0 = 3
 ·rw [if_pos k23] at h
  by_cases kx : a1_1 < 1
  ·rw [if_pos kx] at h
   simp only [Option.some.injEq, Prod.mk.injEq] at h
   obtain ⟨rfl, rfl, rfl, rfl, rfl⟩ := h
   have kxb := decide_eq_true kx
   clear kx
   rcases k23 with rfl | rfl
   ·go_enter Try.func24, Try.ntmps24
    go_wp2_with (first | ((with_reducible refine gate_dst (N := 2) rfl ?_); refine box_event ?hg (N := 2) ?hd (cs := #[.pointer (some ⟨gi0, 0, none⟩)]) (t := 70) ?hr ?_; (case hd => rfl); (case hg => rfl); (case hr => exact zH37); intro cb hg w10 hbox hb_; have HB2 := za (zp HB.out hb_); have HK2 := za (zy hb_ (fun _ => False)); have BK2 := za (zu BK.out hb_); have HR2 := za (zt HR.out hb_); have BC2 := za hbox; have CBN := za (show ¬ ((P0_3_ cb ∧ cb < w.heap.size) ∨ cb = gi0) from by rw [hg]; rintro (⟨_, h⟩ | h); exact Nat.lt_irrefl _ h; exact Nat.ne_of_gt HN.out h); clear hbox hb_ hg) | ((with_reducible refine gate_dst (N := 3) rfl ?_); refine box_event ?hg (N := 3) ?hd (cs := #[.int .i64 2, .int .i64 a1_1, .int .i64 a1_2, .int .i64 a1_3]) (t := 54) ?hr ?_; (case hd => rfl); (case hg => rfl); (case hr => exact zH37); intro xb hg w11 hbox hb_; have HB3 := za (zp HB2.out hb_); have HK3 := za (HK2.out.below hb_); have BK3 := za (zu BK2.out hb_); have HR3 := za (zt HR2.out hb_); have BC3 := za (zu BC2.out hb_); have BX3 := za hbox; have XBN := za (show ¬ ((P0_3_ xb ∧ xb < w.heap.size) ∨ xb = gi0) from by rw [hg]; rintro (⟨_, h⟩ | h); exact absurd h (Nat.not_lt.mpr HK2.out.1); exact Nat.ne_of_gt (Nat.lt_of_lt_of_le HN.out HK2.out.1) h); have hx0 : w11.cell? ⟨xb, 0, none⟩ = some (.int .i64 2) := (zb hbox 0).trans rfl; have hx1 : w11.cell? ⟨xb, 1, none⟩ = some (.int .i64 a1_1) := (zb hbox 1).trans rfl; have hx2 : w11.cell? ⟨xb, 2, none⟩ = some (.int .i64 a1_2) := (zb hbox 2).trans rfl; have hx3 : w11.cell? ⟨xb, 3, none⟩ = some (.int .i64 a1_3) := (zb hbox 3).trans rfl; have hcc : w11.cell? ⟨cb, 0, none⟩ = some (.pointer (some ⟨gi0, 0, none⟩)) := (zb BC3.out 0).trans rfl; have hg0 : w11.cell? ⟨gi0, 0, none⟩ = some (.int .i64 a0_0) := (zb BK3.out 0).trans rfl; have hfg := zd BK3.out 0; clear hbox hb_ hg))
    go_ret
    exact zH30
   ·go_enter Try.func24, Try.ntmps24
    go_wp2_with (first | ((with_reducible refine gate_dst (N := 2) rfl ?_); refine box_event ?hg (N := 2) ?hd (cs := #[.pointer (some ⟨gi0, 0, none⟩)]) (t := 70) ?hr ?_; (case hd => rfl); (case hg => rfl); (case hr => exact zH37); intro cb hg w10 hbox hb_; have HB2 := za (zp HB.out hb_); have HK2 := za (zy hb_ (fun _ => False)); have BK2 := za (zu BK.out hb_); have HR2 := za (zt HR.out hb_); have BC2 := za hbox; have CBN := za (show ¬ ((P0_3_ cb ∧ cb < w.heap.size) ∨ cb = gi0) from by rw [hg]; rintro (⟨_, h⟩ | h); exact Nat.lt_irrefl _ h; exact Nat.ne_of_gt HN.out h); clear hbox hb_ hg) | ((with_reducible refine gate_dst (N := 3) rfl ?_); refine box_event ?hg (N := 3) ?hd (cs := #[.int .i64 3, .int .i64 a1_1, .int .i64 a1_2, .int .i64 a1_3]) (t := 54) ?hr ?_; (case hd => rfl); (case hg => rfl); (case hr => exact zH37); intro xb hg w11 hbox hb_; have HB3 := za (zp HB2.out hb_); have HK3 := za (HK2.out.below hb_); have BK3 := za (zu BK2.out hb_); have HR3 := za (zt HR2.out hb_); have BC3 := za (zu BC2.out hb_); have BX3 := za hbox; have XBN := za (show ¬ ((P0_3_ xb ∧ xb < w.heap.size) ∨ xb = gi0) from by rw [hg]; rintro (⟨_, h⟩ | h); exact absurd h (Nat.not_lt.mpr HK2.out.1); exact Nat.ne_of_gt (Nat.lt_of_lt_of_le HN.out HK2.out.1) h); have hx0 : w11.cell? ⟨xb, 0, none⟩ = some (.int .i64 3) := (zb hbox 0).trans rfl; have hx1 : w11.cell? ⟨xb, 1, none⟩ = some (.int .i64 a1_1) := (zb hbox 1).trans rfl; have hx2 : w11.cell? ⟨xb, 2, none⟩ = some (.int .i64 a1_2) := (zb hbox 2).trans rfl; have hx3 : w11.cell? ⟨xb, 3, none⟩ = some (.int .i64 a1_3) := (zb hbox 3).trans rfl; have hcc : w11.cell? ⟨cb, 0, none⟩ = some (.pointer (some ⟨gi0, 0, none⟩)) := (zb BC3.out 0).trans rfl; have hg0 : w11.cell? ⟨gi0, 0, none⟩ = some (.int .i64 a0_0) := (zb BK3.out 0).trans rfl; have hfg := zd BK3.out 0; clear hbox hb_ hg))
    go_ret
    exact zH30
  rw [if_neg kx] at h
  have kxb := decide_eq_false kx
  clear kx
  by_cases km : wrap64 ((l0_3.length : Int) - ((cartLeft a1_1 l0_3).length : Int)) = 0
  ·rw [if_pos km] at h
   simp only [Option.some.injEq, Prod.mk.injEq] at h
   obtain ⟨rfl, rfl, rfl, rfl, rfl⟩ := h
   have kmb := beq_iff_eq.mpr km
   clear km
   rcases k23 with rfl | rfl
   ·go_enter Try.func24, Try.ntmps24
    go_wp2_with (first | ((with_reducible refine gate_dst (N := 2) rfl ?_); refine box_event ?hg (N := 2) ?hd (cs := #[.pointer (some ⟨gi0, 0, none⟩)]) (t := 70) ?hr ?_; (case hd => rfl); (case hg => rfl); (case hr => exact zH37); intro cb hg w10 hbox hb_; have HB2 := za (zp HB.out hb_); have HK2 := za (zy hb_ (fun _ => False)); have BK2 := za (zu BK.out hb_); have HR2 := za (zt HR.out hb_); have BC2 := za hbox; have CBN := za (show ¬ ((P0_3_ cb ∧ cb < w.heap.size) ∨ cb = gi0) from by rw [hg]; rintro (⟨_, h⟩ | h); exact Nat.lt_irrefl _ h; exact Nat.ne_of_gt HN.out h); clear hbox hb_ hg) | ((with_reducible refine gate_dst (N := 3) rfl ?_); refine box_event ?hg (N := 3) ?hd (cs := #[.int .i64 2, .int .i64 a1_1, .int .i64 a1_2, .int .i64 a1_3]) (t := 54) ?hr ?_; (case hd => rfl); (case hg => rfl); (case hr => exact zH37); intro xb hg w11 hbox hb_; have HB3 := za (zp HB2.out hb_); have HK3 := za (HK2.out.below hb_); have BK3 := za (zu BK2.out hb_); have HR3 := za (zt HR2.out hb_); have BC3 := za (zu BC2.out hb_); have BX3 := za hbox; have XBN := za (show ¬ ((P0_3_ xb ∧ xb < w.heap.size) ∨ xb = gi0) from by rw [hg]; rintro (⟨_, h⟩ | h); exact absurd h (Nat.not_lt.mpr HK2.out.1); exact Nat.ne_of_gt (Nat.lt_of_lt_of_le HN.out HK2.out.1) h); have hx0 : w11.cell? ⟨xb, 0, none⟩ = some (.int .i64 2) := (zb hbox 0).trans rfl; have hx1 : w11.cell? ⟨xb, 1, none⟩ = some (.int .i64 a1_1) := (zb hbox 1).trans rfl; have hx2 : w11.cell? ⟨xb, 2, none⟩ = some (.int .i64 a1_2) := (zb hbox 2).trans rfl; have hx3 : w11.cell? ⟨xb, 3, none⟩ = some (.int .i64 a1_3) := (zb hbox 3).trans rfl; have hcc : w11.cell? ⟨cb, 0, none⟩ = some (.pointer (some ⟨gi0, 0, none⟩)) := (zb BC3.out 0).trans rfl; have hg0 : w11.cell? ⟨gi0, 0, none⟩ = some (.int .i64 a0_0) := (zb BK3.out 0).trans rfl; have hfg := zd BK3.out 0; clear hbox hb_ hg) | (go_at_call 37; refine (rel_cart w0 w11 gi0 xb a0_0 a0_1 a0_2 2 a1_1 a1_2 a1_3 _ l0_3 (fun k => P0_3_ k ∧ k < w.heap.size) HB3.out BK3.out GE.out HR3.out BX3.out).mono ?_; rintro e w' ⟨v4_, rfl, hr9, hb9, hw9, hk9⟩; have HR9 := za hr9; have HB9 := za hb9; have HW9 := za hw9; have HK9 := za hk9; have BC9 := za (zaf BC3.out hk9 CBN.out); have BX9 := za (zaf BX3.out hk9 XBN.out); have hq0 : w'.cell? ⟨xb, 0, none⟩ = some (.int .i64 2) := (zb BX9.out 0).trans rfl; have hqc : w'.cell? ⟨cb, 0, none⟩ = some (.pointer (some ⟨gi0, 0, none⟩)) := (zb BC9.out 0).trans rfl; have hq1 : w'.cell? ⟨gi0, 1, none⟩ = some (.int .i64 a0_1) := (zb HB9.out 1).trans rfl; have hq2 : w'.cell? ⟨gi0, 2, none⟩ = some (.int .i64 a0_2) := (zb HB9.out 2).trans rfl; have hqf1 := zd HB9.out 1; have hqf2 := zd HB9.out 2; clear hr9 hb9 hw9 hk9))
    go_ret
    exact zH17
   ·go_enter Try.func24, Try.ntmps24
    go_wp2_with (first | ((with_reducible refine gate_dst (N := 2) rfl ?_); refine box_event ?hg (N := 2) ?hd (cs := #[.pointer (some ⟨gi0, 0, none⟩)]) (t := 70) ?hr ?_; (case hd => rfl); (case hg => rfl); (case hr => exact zH37); intro cb hg w10 hbox hb_; have HB2 := za (zp HB.out hb_); have HK2 := za (zy hb_ (fun _ => False)); have BK2 := za (zu BK.out hb_); have HR2 := za (zt HR.out hb_); have BC2 := za hbox; have CBN := za (show ¬ ((P0_3_ cb ∧ cb < w.heap.size) ∨ cb = gi0) from by rw [hg]; rintro (⟨_, h⟩ | h); exact Nat.lt_irrefl _ h; exact Nat.ne_of_gt HN.out h); clear hbox hb_ hg) | ((with_reducible refine gate_dst (N := 3) rfl ?_); refine box_event ?hg (N := 3) ?hd (cs := #[.int .i64 3, .int .i64 a1_1, .int .i64 a1_2, .int .i64 a1_3]) (t := 54) ?hr ?_; (case hd => rfl); (case hg => rfl); (case hr => exact zH37); intro xb hg w11 hbox hb_; have HB3 := za (zp HB2.out hb_); have HK3 := za (HK2.out.below hb_); have BK3 := za (zu BK2.out hb_); have HR3 := za (zt HR2.out hb_); have BC3 := za (zu BC2.out hb_); have BX3 := za hbox; have XBN := za (show ¬ ((P0_3_ xb ∧ xb < w.heap.size) ∨ xb = gi0) from by rw [hg]; rintro (⟨_, h⟩ | h); exact absurd h (Nat.not_lt.mpr HK2.out.1); exact Nat.ne_of_gt (Nat.lt_of_lt_of_le HN.out HK2.out.1) h); have hx0 : w11.cell? ⟨xb, 0, none⟩ = some (.int .i64 3) := (zb hbox 0).trans rfl; have hx1 : w11.cell? ⟨xb, 1, none⟩ = some (.int .i64 a1_1) := (zb hbox 1).trans rfl; have hx2 : w11.cell? ⟨xb, 2, none⟩ = some (.int .i64 a1_2) := (zb hbox 2).trans rfl; have hx3 : w11.cell? ⟨xb, 3, none⟩ = some (.int .i64 a1_3) := (zb hbox 3).trans rfl; have hcc : w11.cell? ⟨cb, 0, none⟩ = some (.pointer (some ⟨gi0, 0, none⟩)) := (zb BC3.out 0).trans rfl; have hg0 : w11.cell? ⟨gi0, 0, none⟩ = some (.int .i64 a0_0) := (zb BK3.out 0).trans rfl; have hfg := zd BK3.out 0; clear hbox hb_ hg) | (go_at_call 37; refine (rel_cart w0 w11 gi0 xb a0_0 a0_1 a0_2 3 a1_1 a1_2 a1_3 _ l0_3 (fun k => P0_3_ k ∧ k < w.heap.size) HB3.out BK3.out GE.out HR3.out BX3.out).mono ?_; rintro e w' ⟨v4_, rfl, hr9, hb9, hw9, hk9⟩; have HR9 := za hr9; have HB9 := za hb9; have HW9 := za hw9; have HK9 := za hk9; have BC9 := za (zaf BC3.out hk9 CBN.out); have BX9 := za (zaf BX3.out hk9 XBN.out); have hq0 : w'.cell? ⟨xb, 0, none⟩ = some (.int .i64 3) := (zb BX9.out 0).trans rfl; have hqc : w'.cell? ⟨cb, 0, none⟩ = some (.pointer (some ⟨gi0, 0, none⟩)) := (zb BC9.out 0).trans rfl; have hq1 : w'.cell? ⟨gi0, 1, none⟩ = some (.int .i64 a0_1) := (zb HB9.out 1).trans rfl; have hq2 : w'.cell? ⟨gi0, 2, none⟩ = some (.int .i64 a0_2) := (zb HB9.out 2).trans rfl; have hqf1 := zd HB9.out 1; have hqf2 := zd HB9.out 2; clear hr9 hb9 hw9 hk9))
    go_ret
    exact zH17
  rw [if_neg km] at h
  have kmb := beq_eq_false_iff_ne.mpr km
  clear km
  have hne : ∀ j, (P0_3_ j ∧ j < w.heap.size) → j ≠ gi0 ∨ True := fun _ _ => .inr trivial
  rcases k23 with rfl | rfl
  ·rw [if_pos rfl] at h
   simp only [Option.some.injEq, Prod.mk.injEq] at h
   obtain ⟨rfl, rfl, rfl, rfl, rfl⟩ := h
   go_enter Try.func24, Try.ntmps24
   go_wp2_with (first | ((with_reducible refine gate_dst (N := 2) rfl ?_); refine box_event ?hg (N := 2) ?hd (cs := #[.pointer (some ⟨gi0, 0, none⟩)]) (t := 70) ?hr ?_; (case hd => rfl); (case hg => rfl); (case hr => exact zH37); intro cb hg w10 hbox hb_; have HB2 := za (zp HB.out hb_); have HK2 := za (zy hb_ (fun _ => False)); have BK2 := za (zu BK.out hb_); have HR2 := za (zt HR.out hb_); have BC2 := za hbox; have CBN := za (show ¬ ((P0_3_ cb ∧ cb < w.heap.size) ∨ cb = gi0) from by rw [hg]; rintro (⟨_, h⟩ | h); exact Nat.lt_irrefl _ h; exact Nat.ne_of_gt HN.out h); clear hbox hb_ hg) | ((with_reducible refine gate_dst (N := 3) rfl ?_); refine box_event ?hg (N := 3) ?hd (cs := #[.int .i64 2, .int .i64 a1_1, .int .i64 a1_2, .int .i64 a1_3]) (t := 54) ?hr ?_; (case hd => rfl); (case hg => rfl); (case hr => exact zH37); intro xb hg w11 hbox hb_; have HB3 := za (zp HB2.out hb_); have HK3 := za (HK2.out.below hb_); have BK3 := za (zu BK2.out hb_); have HR3 := za (zt HR2.out hb_); have BC3 := za (zu BC2.out hb_); have BX3 := za hbox; have XBN := za (show ¬ ((P0_3_ xb ∧ xb < w.heap.size) ∨ xb = gi0) from by rw [hg]; rintro (⟨_, h⟩ | h); exact absurd h (Nat.not_lt.mpr HK2.out.1); exact Nat.ne_of_gt (Nat.lt_of_lt_of_le HN.out HK2.out.1) h); have hx0 : w11.cell? ⟨xb, 0, none⟩ = some (.int .i64 2) := (zb hbox 0).trans rfl; have hx1 : w11.cell? ⟨xb, 1, none⟩ = some (.int .i64 a1_1) := (zb hbox 1).trans rfl; have hx2 : w11.cell? ⟨xb, 2, none⟩ = some (.int .i64 a1_2) := (zb hbox 2).trans rfl; have hx3 : w11.cell? ⟨xb, 3, none⟩ = some (.int .i64 a1_3) := (zb hbox 3).trans rfl; have hcc : w11.cell? ⟨cb, 0, none⟩ = some (.pointer (some ⟨gi0, 0, none⟩)) := (zb BC3.out 0).trans rfl; have hg0 : w11.cell? ⟨gi0, 0, none⟩ = some (.int .i64 a0_0) := (zb BK3.out 0).trans rfl; have hfg := zd BK3.out 0; clear hbox hb_ hg) | (go_at_call 37; refine (rel_cart w0 w11 gi0 xb a0_0 a0_1 a0_2 2 a1_1 a1_2 a1_3 _ l0_3 (fun k => P0_3_ k ∧ k < w.heap.size) HB3.out BK3.out GE.out HR3.out BX3.out).mono ?_; rintro e w' ⟨v4_, rfl, hr9, hb9, hw9, hk9⟩; have HR9 := za hr9; have HB9 := za hb9; have HW9 := za hw9; have HK9 := za hk9; have BC9 := za (zaf BC3.out hk9 CBN.out); have BX9 := za (zaf BX3.out hk9 XBN.out); have hq0 : w'.cell? ⟨xb, 0, none⟩ = some (.int .i64 2) := (zb BX9.out 0).trans rfl; have hqc : w'.cell? ⟨cb, 0, none⟩ = some (.pointer (some ⟨gi0, 0, none⟩)) := (zb BC9.out 0).trans rfl; have hq1 : w'.cell? ⟨gi0, 1, none⟩ = some (.int .i64 a0_1) := (zb HB9.out 1).trans rfl; have hq2 : w'.cell? ⟨gi0, 2, none⟩ = some (.int .i64 a0_2) := (zb HB9.out 2).trans rfl; have hqf1 := zd HB9.out 1; have hqf2 := zd HB9.out 2; clear hr9 hb9 hw9 hk9))
   go_ret
   exact ⟨v4_, rfl, zn (Kd.R_set HR9.out HB9.out zG64 2 _) (fun _ h => .inl h.1), zr HB9.out 2 _ rfl, zi HW9.out GE.out, Kept.setCell (p := ⟨gi0, 2, none⟩) ((HK3.out.mono (fun _ h => h.elim)).then_ HK9.out (fun _ h => .inl (h.imp (fun h => h.1) id))) (.inl (.inr rfl)) _⟩
  ·rw [if_neg zG64] at h
   simp only [Option.some.injEq, Prod.mk.injEq] at h
   obtain ⟨rfl, rfl, rfl, rfl, rfl⟩ := h
   go_enter Try.func24, Try.ntmps24
   go_wp2_with (first | ((with_reducible refine gate_dst (N := 2) rfl ?_); refine box_event ?hg (N := 2) ?hd (cs := #[.pointer (some ⟨gi0, 0, none⟩)]) (t := 70) ?hr ?_; (case hd => rfl); (case hg => rfl); (case hr => exact zH37); intro cb hg w10 hbox hb_; have HB2 := za (zp HB.out hb_); have HK2 := za (zy hb_ (fun _ => False)); have BK2 := za (zu BK.out hb_); have HR2 := za (zt HR.out hb_); have BC2 := za hbox; have CBN := za (show ¬ ((P0_3_ cb ∧ cb < w.heap.size) ∨ cb = gi0) from by rw [hg]; rintro (⟨_, h⟩ | h); exact Nat.lt_irrefl _ h; exact Nat.ne_of_gt HN.out h); clear hbox hb_ hg) | ((with_reducible refine gate_dst (N := 3) rfl ?_); refine box_event ?hg (N := 3) ?hd (cs := #[.int .i64 3, .int .i64 a1_1, .int .i64 a1_2, .int .i64 a1_3]) (t := 54) ?hr ?_; (case hd => rfl); (case hg => rfl); (case hr => exact zH37); intro xb hg w11 hbox hb_; have HB3 := za (zp HB2.out hb_); have HK3 := za (HK2.out.below hb_); have BK3 := za (zu BK2.out hb_); have HR3 := za (zt HR2.out hb_); have BC3 := za (zu BC2.out hb_); have BX3 := za hbox; have XBN := za (show ¬ ((P0_3_ xb ∧ xb < w.heap.size) ∨ xb = gi0) from by rw [hg]; rintro (⟨_, h⟩ | h); exact absurd h (Nat.not_lt.mpr HK2.out.1); exact Nat.ne_of_gt (Nat.lt_of_lt_of_le HN.out HK2.out.1) h); have hx0 : w11.cell? ⟨xb, 0, none⟩ = some (.int .i64 3) := (zb hbox 0).trans rfl; have hx1 : w11.cell? ⟨xb, 1, none⟩ = some (.int .i64 a1_1) := (zb hbox 1).trans rfl; have hx2 : w11.cell? ⟨xb, 2, none⟩ = some (.int .i64 a1_2) := (zb hbox 2).trans rfl; have hx3 : w11.cell? ⟨xb, 3, none⟩ = some (.int .i64 a1_3) := (zb hbox 3).trans rfl; have hcc : w11.cell? ⟨cb, 0, none⟩ = some (.pointer (some ⟨gi0, 0, none⟩)) := (zb BC3.out 0).trans rfl; have hg0 : w11.cell? ⟨gi0, 0, none⟩ = some (.int .i64 a0_0) := (zb BK3.out 0).trans rfl; have hfg := zd BK3.out 0; clear hbox hb_ hg) | (go_at_call 37; refine (rel_cart w0 w11 gi0 xb a0_0 a0_1 a0_2 3 a1_1 a1_2 a1_3 _ l0_3 (fun k => P0_3_ k ∧ k < w.heap.size) HB3.out BK3.out GE.out HR3.out BX3.out).mono ?_; rintro e w' ⟨v4_, rfl, hr9, hb9, hw9, hk9⟩; have HR9 := za hr9; have HB9 := za hb9; have HW9 := za hw9; have HK9 := za hk9; have BC9 := za (zaf BC3.out hk9 CBN.out); have BX9 := za (zaf BX3.out hk9 XBN.out); have hq0 : w'.cell? ⟨xb, 0, none⟩ = some (.int .i64 3) := (zb BX9.out 0).trans rfl; have hqc : w'.cell? ⟨cb, 0, none⟩ = some (.pointer (some ⟨gi0, 0, none⟩)) := (zb BC9.out 0).trans rfl; have hq1 : w'.cell? ⟨gi0, 1, none⟩ = some (.int .i64 a0_1) := (zb HB9.out 1).trans rfl; have hq2 : w'.cell? ⟨gi0, 2, none⟩ = some (.int .i64 a0_2) := (zb HB9.out 2).trans rfl; have hqf1 := zd HB9.out 1; have hqf2 := zd HB9.out 2; clear hr9 hb9 hw9 hk9))
   go_ret
   exact ⟨v4_, rfl, zn (Kd.R_set HR9.out HB9.out zG64 1 _) (fun _ h => .inl h.1), zr HB9.out 1 _ rfl, zi HW9.out GE.out, Kept.setCell (p := ⟨gi0, 1, none⟩) ((HK3.out.mono (fun _ h => h.elim)).then_ HK9.out (fun _ h => .inl (h.imp (fun h => h.1) id))) (.inl (.inr rfl)) _⟩
 rw [if_neg k23] at h
 have e2 : (a1_0 == 2) = false := beq_eq_false_iff_ne.mpr (by omega)
 have e3 : (a1_0 == 3) = false := beq_eq_false_iff_ne.mpr (by omega)
 by_cases k4 : a1_0 = 4
 ·subst k4
  rw [if_pos rfl] at h
  clear e1 e2 e3 k1 k23
  replace h := Option.bind_eq_some_iff.mp h
  obtain ⟨t, a5, h⟩ := h
  have A5 := za a5
  clear a5
  cases t with
  | false =>
   simp only [Bool.false_eq_true, if_false, Option.some.injEq, Prod.mk.injEq] at h
   obtain ⟨rfl, rfl, rfl, rfl, rfl⟩ := h
   go_enter Try.func24, Try.ntmps24
   go_wp2_with (first | ((with_reducible refine gate_dst (N := 2) rfl ?_); refine box_event ?hg (N := 2) ?hd (cs := #[.pointer (some ⟨gi0, 0, none⟩)]) (t := 70) ?hr ?_; (case hd => rfl); (case hg => rfl); (case hr => exact zH37); intro cb hg w10 hbox hb_; have HB2 := za (zp HB.out hb_); have HK2 := za (zy hb_ (fun _ => False)); have BK2 := za (zu BK.out hb_); have HR2 := za (zt HR.out hb_); have BC2 := za hbox; have CBN := za (show ¬ ((P0_3_ cb ∧ cb < w.heap.size) ∨ cb = gi0) from by rw [hg]; rintro (⟨_, h⟩ | h); exact Nat.lt_irrefl _ h; exact Nat.ne_of_gt HN.out h); clear hbox hb_ hg) | ((with_reducible refine gate_dst (N := 3) rfl ?_); refine box_event ?hg (N := 3) ?hd (cs := #[.int .i64 4, .int .i64 a1_1, .int .i64 a1_2, .int .i64 a1_3]) (t := 54) ?hr ?_; (case hd => rfl); (case hg => rfl); (case hr => exact zH37); intro xb hg w11 hbox hb_; have HB3 := za (zp HB2.out hb_); have HK3 := za (HK2.out.below hb_); have BK3 := za (zu BK2.out hb_); have HR3 := za (zt HR2.out hb_); have BC3 := za (zu BC2.out hb_); have BX3 := za hbox; have XBN := za (show ¬ ((P0_3_ xb ∧ xb < w.heap.size) ∨ xb = gi0) from by rw [hg]; rintro (⟨_, h⟩ | h); exact absurd h (Nat.not_lt.mpr HK2.out.1); exact Nat.ne_of_gt (Nat.lt_of_lt_of_le HN.out HK2.out.1) h); have hx0 : w11.cell? ⟨xb, 0, none⟩ = some (.int .i64 4) := (zb hbox 0).trans rfl; have hx1 : w11.cell? ⟨xb, 1, none⟩ = some (.int .i64 a1_1) := (zb hbox 1).trans rfl; have hx2 : w11.cell? ⟨xb, 2, none⟩ = some (.int .i64 a1_2) := (zb hbox 2).trans rfl; have hx3 : w11.cell? ⟨xb, 3, none⟩ = some (.int .i64 a1_3) := (zb hbox 3).trans rfl; have hcc : w11.cell? ⟨cb, 0, none⟩ = some (.pointer (some ⟨gi0, 0, none⟩)) := (zb BC3.out 0).trans rfl; have hg0 : w11.cell? ⟨gi0, 0, none⟩ = some (.int .i64 a0_0) := (zb BK3.out 0).trans rfl; have hfg := zd BK3.out 0; clear hbox hb_ hg) | (go_at_call 23; refine (impl_within.calls a1_3 0 10000 _ _ A5.out).mono ?_; rintro e w' ⟨rfl, ⟨nd, rfl⟩⟩))
   go_ret
   exact ⟨_, rfl, by (with_reducible repeat (first | apply zk | apply zm)); exact zn HR3.out (fun _ h => .inl h.1), BK3.out, zc HB3.out _, Kept.drewN (HK3.out.mono (fun _ h => h.elim)) _⟩
  | true =>
   simp only [if_true, Option.some.injEq, Prod.mk.injEq] at h
   obtain ⟨rfl, rfl, rfl, rfl, rfl⟩ := h
   go_enter Try.func24, Try.ntmps24
   go_wp2_with (first | ((with_reducible refine gate_dst (N := 2) rfl ?_); refine box_event ?hg (N := 2) ?hd (cs := #[.pointer (some ⟨gi0, 0, none⟩)]) (t := 70) ?hr ?_; (case hd => rfl); (case hg => rfl); (case hr => exact zH37); intro cb hg w10 hbox hb_; have HB2 := za (zp HB.out hb_); have HK2 := za (zy hb_ (fun _ => False)); have BK2 := za (zu BK.out hb_); have HR2 := za (zt HR.out hb_); have BC2 := za hbox; have CBN := za (show ¬ ((P0_3_ cb ∧ cb < w.heap.size) ∨ cb = gi0) from by rw [hg]; rintro (⟨_, h⟩ | h); exact Nat.lt_irrefl _ h; exact Nat.ne_of_gt HN.out h); clear hbox hb_ hg) | ((with_reducible refine gate_dst (N := 3) rfl ?_); refine box_event ?hg (N := 3) ?hd (cs := #[.int .i64 4, .int .i64 a1_1, .int .i64 a1_2, .int .i64 a1_3]) (t := 54) ?hr ?_; (case hd => rfl); (case hg => rfl); (case hr => exact zH37); intro xb hg w11 hbox hb_; have HB3 := za (zp HB2.out hb_); have HK3 := za (HK2.out.below hb_); have BK3 := za (zu BK2.out hb_); have HR3 := za (zt HR2.out hb_); have BC3 := za (zu BC2.out hb_); have BX3 := za hbox; have XBN := za (show ¬ ((P0_3_ xb ∧ xb < w.heap.size) ∨ xb = gi0) from by rw [hg]; rintro (⟨_, h⟩ | h); exact absurd h (Nat.not_lt.mpr HK2.out.1); exact Nat.ne_of_gt (Nat.lt_of_lt_of_le HN.out HK2.out.1) h); have hx0 : w11.cell? ⟨xb, 0, none⟩ = some (.int .i64 4) := (zb hbox 0).trans rfl; have hx1 : w11.cell? ⟨xb, 1, none⟩ = some (.int .i64 a1_1) := (zb hbox 1).trans rfl; have hx2 : w11.cell? ⟨xb, 2, none⟩ = some (.int .i64 a1_2) := (zb hbox 2).trans rfl; have hx3 : w11.cell? ⟨xb, 3, none⟩ = some (.int .i64 a1_3) := (zb hbox 3).trans rfl; have hcc : w11.cell? ⟨cb, 0, none⟩ = some (.pointer (some ⟨gi0, 0, none⟩)) := (zb BC3.out 0).trans rfl; have hg0 : w11.cell? ⟨gi0, 0, none⟩ = some (.int .i64 a0_0) := (zb BK3.out 0).trans rfl; have hfg := zd BK3.out 0; clear hbox hb_ hg) | (go_at_call 23; refine (impl_within.calls a1_3 0 10000 _ _ A5.out).mono ?_; rintro e w' ⟨rfl, ⟨nd, rfl⟩⟩))
   go_region
   obtain ⟨hW, hK, hB0, hR0, hC0⟩ := zD5 (show Below w0.heap.size w0 ((w11.drewN (nd + 1)).setCell ⟨gi0, 0, none⟩ (.int .i64 (wrap64 (a0_0 + a1_3)))) from zi (zc HB3.out _) GE.out) (show Kept w ((w11.drewN (nd + 1)).setCell ⟨gi0, 0, none⟩ (.int .i64 (wrap64 (a0_0 + a1_3)))) (fun k_ => P0_3_ k_ ∨ k_ = gi0) from Kept.setCell (p := ⟨gi0, 0, none⟩) (Kept.drewN (HK3.out.mono (fun _ h => h.elim)) _) (.inl (.inr rfl)) _) (zr (zh BK3.out (nd + 1)) 0 (.int .i64 (wrap64 (a0_0 + a1_3))) rfl) (Kd.R_set (zk HR3.out (nd + 1)) (zh BK3.out (nd + 1)) zG64 0 (.int .i64 (wrap64 (a0_0 + a1_3)))) (zak (zh BC3.out (nd + 1)) (p := ⟨gi0, 0, none⟩) (fun he => CBN.out (.inr he)) (.int .i64 (wrap64 (a0_0 + a1_3))))
   generalize (w11.drewN (nd + 1)).setCell ⟨gi0, 0, none⟩ (.int .i64 (wrap64 (a0_0 + a1_3))) = w12 at hW hK hB0 hR0 hC0 ⊢
   have hd0 : w12.cell? ⟨cb, 0, none⟩ = some (.pointer (some ⟨gi0, 0, none⟩)) := (zb hC0.out 0).trans rfl
   go_wp2_with (go_at_call 37; refine (rel_time w0 w12 gi0 cb (wrap64 (a0_0 + a1_3)) a0_1 a0_2 _ l0_3 (fun k => P0_3_ k ∧ k < w.heap.size) hW.out hB0.out GE.out hR0.out hC0.out).mono ?_; rintro e w' ⟨v4_, rfl, hr9, hb9, hw9, hk9⟩; have HR9 := za hr9; have HB9 := za hb9; have HW9 := za hw9; have HK9 := za hk9; have BC9 := za (zaf hC0.out hk9 CBN.out); have hqc : w'.cell? ⟨cb, 0, none⟩ = some (.pointer (some ⟨gi0, 0, none⟩)) := (zb BC9.out 0).trans rfl; have hq1 : w'.cell? ⟨gi0, 1, none⟩ = some (.int .i64 a0_1) := (zb HB9.out 1).trans rfl; have hqf1 := zd HB9.out 1; clear hr9 hb9 hw9 hk9)
   go_ret
   exact ⟨v4_, rfl, zn (Kd.R_set HR9.out HB9.out zG64 1 _) (fun _ h => .inl h.1), zr HB9.out 1 _ rfl, zi HW9.out GE.out, Kept.setCell (p := ⟨gi0, 1, none⟩) (hK.out.then_ HK9.out (fun _ h => .inl (h.imp (fun h => h.1) id))) (.inl (.inr rfl)) _⟩
 ·rw [if_neg k4] at h
  have e4 : (a1_0 == 4) = false := beq_eq_false_iff_ne.mpr k4
  simp only [Option.some.injEq, Prod.mk.injEq] at h
  obtain ⟨rfl, rfl, rfl, rfl, rfl⟩ := h
  clear k1 k23 k4
  go_enter Try.func24, Try.ntmps24
  go_wp2_with (first | ((with_reducible refine gate_dst (N := 2) rfl ?_); refine box_event ?hg (N := 2) ?hd (cs := #[.pointer (some ⟨gi0, 0, none⟩)]) (t := 70) ?hr ?_; (case hd => rfl); (case hg => rfl); (case hr => exact zH37); intro cb hg w10 hbox hb_; have HB2 := za (zp HB.out hb_); have HK2 := za (zy hb_ (fun _ => False)); have BK2 := za (zu BK.out hb_); have HR2 := za (zt HR.out hb_); have BC2 := za hbox; have CBN := za (show ¬ ((P0_3_ cb ∧ cb < w.heap.size) ∨ cb = gi0) from by rw [hg]; rintro (⟨_, h⟩ | h); exact Nat.lt_irrefl _ h; exact Nat.ne_of_gt HN.out h); clear hbox hb_ hg) | ((with_reducible refine gate_dst (N := 3) rfl ?_); refine box_event ?hg (N := 3) ?hd (cs := #[.int .i64 a1_0, .int .i64 a1_1, .int .i64 a1_2, .int .i64 a1_3]) (t := 54) ?hr ?_; (case hd => rfl); (case hg => rfl); (case hr => exact zH37); intro xb hg w11 hbox hb_; have HB3 := za (zp HB2.out hb_); have HK3 := za (HK2.out.below hb_); have BK3 := za (zu BK2.out hb_); have HR3 := za (zt HR2.out hb_); have BC3 := za (zu BC2.out hb_); have BX3 := za hbox; have XBN := za (show ¬ ((P0_3_ xb ∧ xb < w.heap.size) ∨ xb = gi0) from by rw [hg]; rintro (⟨_, h⟩ | h); exact absurd h (Nat.not_lt.mpr HK2.out.1); exact Nat.ne_of_gt (Nat.lt_of_lt_of_le HN.out HK2.out.1) h); have hx0 : w11.cell? ⟨xb, 0, none⟩ = some (.int .i64 a1_0) := (zb hbox 0).trans rfl; have hx1 : w11.cell? ⟨xb, 1, none⟩ = some (.int .i64 a1_1) := (zb hbox 1).trans rfl; have hx2 : w11.cell? ⟨xb, 2, none⟩ = some (.int .i64 a1_2) := (zb hbox 2).trans rfl; have hx3 : w11.cell? ⟨xb, 3, none⟩ = some (.int .i64 a1_3) := (zb hbox 3).trans rfl; have hcc : w11.cell? ⟨cb, 0, none⟩ = some (.pointer (some ⟨gi0, 0, none⟩)) := (zb BC3.out 0).trans rfl; have hg0 : w11.cell? ⟨gi0, 0, none⟩ = some (.int .i64 a0_0) := (zb BK3.out 0).trans rfl; have hfg := zd BK3.out 0; clear hbox hb_ hg))
  go_ret
  exact zH30

end Go.Proofs.Ytdohpbhljifodaa.D
