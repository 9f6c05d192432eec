-- squeezed
-- made by pp.py (wip/tools) out of the translation; Lean checks it
import Derived.Test.YtojncbpeeboooaaQ0
namespace Go.Proofs.Ytojncbpeeboooaa.Q
open Go.RowKit Go.Proofs.YtojncbpeeboooaaW.PrintWords Go.Proofs.YtojncbpeeboooaaW.PrintLast Go.Proofs.YtojncbpeeboooaaW.PrintMore
attribute [local go_sem] max2_int min2_int max_two min_two max_three min_three max_four min_four   -- for this text's walks alone
set_option linter.unusedVariables false
set_option linter.unusedSimpArgs false

/-- A state of type 168 at block g of W; what its slices lead to came in by w0. -/

def IsS168 (w0 W : World) (g : Nat) (f0 : List Int) (f1 : Int) (f2 : Int) : Prop := ∃ A0 c0, W.heap[g]? = some (.cells #[.slice A0 f0.length c0, .int .i64 f1, .int .i64 f2] 168 (0, 0)) ∧ w0.heap.size ≤ g ∧ Kd.C (Kd.int .u8) w0 A0 f0.length f0
theorem IsS168.grown {w0 W : World} {g : Nat} {f0 : List Int} {f1 : Int} {f2 : Int} {W1 : World} {row : Option Nat} (h : IsS168 w0 W g f0 f1 f2) (hw : W.grownBy W1 row) (hne : some g ≠ row) : IsS168 w0 W1 g f0 f1 f2 := by
 obtain ⟨A0, c0, hb, hg, hr0⟩ := h
 exact ⟨A0, c0, zak hb hw hne, hg, hr0⟩
theorem IsS168.own_neN {w0 W : World} {g : Nat} {f0 : List Int} {f1 : Int} {f2 : Int} {α : Type} {d : Kd α} {e : Nat} {base : Nat} {ok : Nat → Prop} {v : Value} {xs : List α} (h : IsS168 w0 W g f0 f1 f2) (ho : Kd.N d e W base ok v xs) (ht : e ≠ 168) : some g ≠ v.ownBlock := by
 obtain ⟨A0, c0, hb, hg, hr0⟩ := h
 exact Kd.N_ne ho hb ht
theorem IsS168.fresh {w0 W : World} {g : Nat} {f0 : List Int} {f1 : Int} {f2 : Int} (h : IsS168 w0 W g f0 f1 f2) : ∀ k, W.heap.size ≤ k → k ≠ g := by
 obtain ⟨A0, c0, hb, hg, hr0⟩ := h
 exact Kd.freshB hb
theorem IsS168.kept {w0 W : World} {g : Nat} {f0 : List Int} {f1 : Int} {f2 : Int} {W1 : World} {S : Nat → Prop} (h : IsS168 w0 W g f0 f1 f2) (hk : Kept W W1 S) (hne : ¬ S g) : IsS168 w0 W1 g f0 f1 f2 := by
 obtain ⟨A0, c0, hb, hg, hr0⟩ := h
 exact ⟨A0, c0, zbb hb hk hne, hg, hr0⟩
theorem IsS168.below {w0 W : World} {g : Nat} {f0 : List Int} {f1 : Int} {f2 : Int} {W1 : World} (h : IsS168 w0 W g f0 f1 f2) (hw : Below W.heap.size W W1) : IsS168 w0 W1 g f0 f1 f2 := h.grown (grown_of_below hw none) (by simp)
theorem IsS168.alloc {w0 W : World} {g : Nat} {f0 : List Int} {f1 : Int} {f2 : Int} (h : IsS168 w0 W g f0 f1 f2) (o : Obj) : IsS168 w0 (W.alloc o) g f0 f1 f2 := h.below (zm (Below.refl _ _) o)
theorem IsS168.drewN {w0 W : World} {g : Nat} {f0 : List Int} {f1 : Int} {f2 : Int} (h : IsS168 w0 W g f0 f1 f2) (m : Nat) : IsS168 w0 (W.drewN m) g f0 f1 f2 := h
theorem IsS168.drew {w0 W : World} {g : Nat} {f0 : List Int} {f1 : Int} {f2 : Int} (h : IsS168 w0 W g f0 f1 f2) : IsS168 w0 W.drew g f0 f1 f2 := h
theorem IsS168.at_ {w0 W : World} {g : Nat} {f0 : List Int} {f1 : Int} {f2 : Int} {w' : World} {m : Nat} (hq : W.drewN m = w') (h : IsS168 w0 W g f0 f1 f2) : IsS168 w0 w' g f0 f1 f2 := by subst hq; exact IsS168.drewN h m
theorem IsS168.apart {w0 W : World} {g : Nat} {f0 : List Int} {f1 : Int} {f2 : Int} {α : Type} {d : Kd α} {e : Nat} {base : Nat} {ok : Nat → Prop} {v : Value} {xs : List α} (h : IsS168 w0 W g f0 f1 f2) (ho : d.R e W base ok v xs) (ht : ∀ q, q ∈ e :: d.E → q ≠ 168) : d.R e W base (fun k => ok k ∧ k ≠ g) v xs := by
 obtain ⟨A0, c0, hb, hg, hr0⟩ := h
 exact zq ho hb ht
theorem IsS168.own_ne {w0 W : World} {g : Nat} {f0 : List Int} {f1 : Int} {f2 : Int} {α : Type} {d : Kd α} {e : Nat} {base : Nat} {ok : Nat → Prop} {v : Value} {xs : List α} (h : IsS168 w0 W g f0 f1 f2) (ho : d.R e W base ok v xs) (ht : e ≠ 168) : some g ≠ v.ownBlock := by
 obtain ⟨A0, c0, hb, hg, hr0⟩ := h
 exact zan ho hb ht
theorem IsS168.apartQ {w0 W : World} {g : Nat} {f0 : List Int} {f1 : Int} {f2 : Int} {α : Type} {d : Kd α} {e : Nat} {base : Nat} {ok : Nat → Prop} {v : Value} {xs : List α} (h : IsS168 w0 W g f0 f1 f2) (ho : d.Q e W base ok v xs) (ht : ∀ q, q ∈ e :: d.E → q ≠ 168) : d.Q e W base (fun k => ok k ∧ k ≠ g) v xs := by
 obtain ⟨A0, c0, hb, hg, hr0⟩ := h
 exact Kd.Q_types ho hb ht
theorem IsS168.own_neQ {w0 W : World} {g : Nat} {f0 : List Int} {f1 : Int} {f2 : Int} {α : Type} {d : Kd α} {e : Nat} {base : Nat} {ok : Nat → Prop} {v : Value} {xs : List α} (h : IsS168 w0 W g f0 f1 f2) (ho : d.Q e W base ok v xs) (ht : e ≠ 168) : some g ≠ v.ownBlock := by
 obtain ⟨A0, c0, hb, hg, hr0⟩ := h
 exact Kd.Q_ne ho hb ht
theorem IsS168.apartS {w0 W : World} {g : Nat} {f0 : List Int} {f1 : Int} {f2 : Int} {α : Type} {d : Kd α} {e : Nat} {base : Nat} {ok : Nat → Prop} {v : Value} {xs : List α} (h : IsS168 w0 W g f0 f1 f2) (ho : d.S e W base ok v xs) (ht : ∀ q, q ∈ e :: d.E → q ≠ 168) : d.S e W base (fun k => ok k ∧ k ≠ g) v xs := by
 obtain ⟨A0, c0, hb, hg, hr0⟩ := h
 exact Kd.S_types ho hb ht
theorem IsS168.own_neS {w0 W : World} {g : Nat} {f0 : List Int} {f1 : Int} {f2 : Int} {α : Type} {d : Kd α} {e : Nat} {base : Nat} {ok : Nat → Prop} {v : Value} {xs : List α} (h : IsS168 w0 W g f0 f1 f2) (ho : d.S e W base ok v xs) (ht : e ≠ 168) : some g ≠ v.ownBlock := by
 obtain ⟨A0, c0, hb, hg, hr0⟩ := h
 exact Kd.S_ne ho hb ht
theorem IsS168.lt {w0 W : World} {g : Nat} {f0 : List Int} {f1 : Int} {f2 : Int} (h : IsS168 w0 W g f0 f1 f2) : g < W.heap.size := by
 obtain ⟨A0, c0, hb, hg, hr0⟩ := h
 exact zac hb
theorem IsS168.ge {w0 W : World} {g : Nat} {f0 : List Int} {f1 : Int} {f2 : Int} (h : IsS168 w0 W g f0 f1 f2) : w0.heap.size ≤ g := by
 obtain ⟨A0, c0, hb, hg, hr0⟩ := h
 exact hg
theorem IsS168.ne_blk {w0 W : World} {g : Nat} {f0 : List Int} {f1 : Int} {f2 : Int} {a : Nat} {cs : Array Value} {t : TypeId} {fr : Nat × Nat} (h : IsS168 w0 W g f0 f1 f2) (hb2 : W.heap[a]? = some (.cells cs t fr)) (ht : t ≠ 168) : g ≠ a := by
 obtain ⟨A0, c0, hb, hg, hr0⟩ := h
 rintro rfl
 rw [hb] at hb2
 injection hb2 with hb2
 injection hb2 with _ ht2
 exact ht ht2.symm
theorem IsS168.far {w0 W : World} {g : Nat} {f0 : List Int} {f1 : Int} {f2 : Int} {p : Addr} (h : IsS168 w0 W g f0 f1 f2) (hne : g ≠ p.block) (u : Value) : IsS168 w0 (W.setCell p u) g f0 f1 f2 := by
 obtain ⟨A0, c0, hb, hg, hr0⟩ := h
 exact ⟨A0, c0, zr hb hne u, hg, hr0⟩
theorem cellS168_0 {W : World} {g : Nat} {A0 : Option Addr} {c0 : Nat} {f0 : List Int} {f1 : Int} {f2 : Int} (h : W.heap[g]? = some (.cells #[.slice A0 f0.length c0, .int .i64 f1, .int .i64 f2] 168 (0, 0))) : W.cell? ⟨g, 0, none⟩ = some (.slice A0 f0.length c0) := (zl h 0).trans rfl
theorem cellS168_1 {W : World} {g : Nat} {A0 : Option Addr} {c0 : Nat} {f0 : List Int} {f1 : Int} {f2 : Int} (h : W.heap[g]? = some (.cells #[.slice A0 f0.length c0, .int .i64 f1, .int .i64 f2] 168 (0, 0))) : W.cell? ⟨g, 1, none⟩ = some (.int .i64 f1) := (zl h 1).trans rfl
theorem IsS168.set_1 {w0 W : World} {g : Nat} {f0 : List Int} {f1 : Int} {f2 : Int} (h : IsS168 w0 W g f0 f1 f2) (x : Int) : IsS168 w0 (W.setCell ⟨g, 1, none⟩ (.int .i64 x)) g f0 x f2 := by
 obtain ⟨A0, c0, hb, hg, hr0⟩ := h
 exact ⟨A0, c0, by simpa using blk_set hb 1 (.int .i64 x), hg, hr0⟩
theorem cellS168_2 {W : World} {g : Nat} {A0 : Option Addr} {c0 : Nat} {f0 : List Int} {f1 : Int} {f2 : Int} (h : W.heap[g]? = some (.cells #[.slice A0 f0.length c0, .int .i64 f1, .int .i64 f2] 168 (0, 0))) : W.cell? ⟨g, 2, none⟩ = some (.int .i64 f2) := (zl h 2).trans rfl
theorem IsS168.set_2 {w0 W : World} {g : Nat} {f0 : List Int} {f1 : Int} {f2 : Int} (h : IsS168 w0 W g f0 f1 f2) (x : Int) : IsS168 w0 (W.setCell ⟨g, 2, none⟩ (.int .i64 x)) g f0 f1 x := by
 obtain ⟨A0, c0, hb, hg, hr0⟩ := h
 exact ⟨A0, c0, by simpa using blk_set hb 2 (.int .i64 x), hg, hr0⟩
theorem IsS168.new (w0 W : World) (A0 : Option Addr) (c0 : Nat) (f0 : List Int) (f1 : Int) (f2 : Int) (hB : Below w0.heap.size w0 W) (hr0 : Kd.C (Kd.int .u8) w0 A0 f0.length f0) : IsS168 w0 (W.alloc (.cells #[.slice A0 f0.length c0, .int .i64 f1, .int .i64 f2] 168)) W.heap.size f0 f1 f2 := ⟨A0, c0, by simpa using heap_alloc_new W _, hB.size, hr0⟩

/-! ### spec_l00Source: function 55 -/
def spec_l00Source.f (l0 : List Int) : Option (List Int × Int × Int) := some (l0, 0, (l0.length : Int) % 1000)
set_option maxHeartbeats 64000000 in
set_option maxRecDepth 100000 in
theorem spec_l00Source.calls (A0 : Option Addr) (c0 : Nat) (l0 : List Int) (r1 : List Int) (r2 : Int) (r3 : Int) (w0 w : World) (hB : Below w0.heap.size w0 w) (hr0 : Kd.C (Kd.int .u8) w0 A0 l0.length l0) (hc0 : l0.length ≤ c0) (h : spec_l00Source.f l0 = some (r1, r2, r3)) :
  Calls Try.prog 55 #[.slice A0 l0.length c0] w fun e w' => ∃ g_ : Nat, e = .returned (.pointer (some ⟨g_, 0, none⟩)) ∧ IsS168 w0 w' g_ r1 r2 r3 ∧ Below w0.heap.size w0 w' ∧ Below w.heap.size w w' := by
 have hu168 := Try.underlying168
 obtain ⟨HR0, HC0, HBW, HW0, HB⟩ := zD5 hr0 hc0 (Below.refl w.heap.size w) hB.size hB
 clear hr0 hc0 hB
 have H : (some (l0, 0, (l0.length : Int) % 1000)) = some (r1, r2, r3) := h
 clear h
 simp only [Option.some.injEq, Prod.mk.injEq] at H
 obtain ⟨rfl, rfl, rfl⟩ := H
 go_enter Try.func55, Try.ntmps55
 go_wp2_with (first | ((with_reducible refine gate_dst (N := 8) rfl ?_); refine box_event ?hg (N := 8) ?hd (cs := #[.slice A0 l0.length c0, .int .i64 0, .int .i64 ((l0.length : Int) % 1000)]) (t := 168) ?hr ?_; (case hd => rfl); (case hg => rfl); (case hr => exact zH103); intro gb101 hg w2 hbox hb; have n_ := zA_ (za (zv HBW.out hb)) (zA_ (za (zv zG95 hb)) (zA_ (za (hbox)) (zA_ (zN1 w.heap.size hg (zt (by repeat (first | (with_reducible first | exact HBW.out | apply zm | apply zj | apply zk) | exact HBW.out)))) (za ((Nat.le_trans HW0.out (by rw [hg]; exact (zt (by repeat (first | (with_reducible first | exact HBW.out | apply zm | apply zj | apply zk) | exact HBW.out))) : w.heap.size ≤ gb101) : w0.heap.size ≤ gb101)))))); clear HBW HB; obtain ⟨HBW, HB, BK101, GW101, GE101⟩ := n_; clear hb hbox hg))
 go_ret
 exact ⟨_, rfl, (show IsS168 w0 _ gb101 l0 0 ((l0.length : Int) % 1000) from ⟨_, _, by (with_reducible repeat (first | refine zc ?_ _ | refine ze ?_ | refine zb ?_ _)); exact BK101.out, GE101.out, HR0.out⟩), by repeat (first | (with_reducible first | exact HB.out | apply zm | apply zj | apply zk | refine zi ?_ GE101.out) | exact HB.out), by repeat (first | (with_reducible first | exact HBW.out | apply zm | apply zj | apply zk | refine zi ?_ GW101.out) | exact HBW.out)⟩

/-! ### spec_l00Src_byte: function 116 -/
def spec_l00Src_byte.f (s0_0 : List Int) (s0_1 : Int) (s0_2 : Int) : Option (Int × Int × Int) :=
 if (wrap64 (s0_1 + 1)) ≤ (s0_0.length : Int) then (if 0 ≤ wrap64 ((wrap64 (s0_1 + 1)) - 1) then (if wrap64 ((wrap64 (s0_1 + 1)) - 1) < (s0_0.length : Int) then some (wrap64 (rd s0_0 (wrap64 ((wrap64 (s0_1 + 1)) - 1))), wrap64 (s0_1 + 1), Int.tmod (wrap64 ((wrap64 ((wrap64 (s0_2 * 31)) + (wrap64 (rd s0_0 (wrap64 ((wrap64 (s0_1 + 1)) - 1)))))) + 7)) 2147483648) else none) else none)
 else if (wrap64 (s0_1 + 1)) > 3000 then some (0, wrap64 (s0_1 + 1), s0_2)
 else some (Int.tmod (wrap64 (Int.tdiv (Int.tmod (wrap64 ((wrap64 (s0_2 * 1103515245)) + 12345)) 2147483648) 65536)) 256, wrap64 (s0_1 + 1), Int.tmod (wrap64 ((wrap64 (s0_2 * 1103515245)) + 12345)) 2147483648)
set_option maxHeartbeats 64000000 in
set_option maxRecDepth 100000 in
theorem spec_l00Src_byte.calls (g : Nat) (s0_0 : List Int) (s0_1 : Int) (s0_2 : Int) (r1 : Int) (r2 : Int) (r3 : Int) (w0 w : World) (hI : IsS168 w0 w g s0_0 s0_1 s0_2) (hB : Below w0.heap.size w0 w) (h : spec_l00Src_byte.f s0_0 s0_1 s0_2 = some (r1, r2, r3)) :
  Calls Try.prog 116 #[.pointer (some ⟨g, 0, none⟩)] w fun e w' => e = .returned (.int .i64 r1) ∧ IsS168 w0 w' g s0_0 r2 r3 ∧ Below w0.heap.size w0 w' ∧ KeepBut w w' g none := by
 obtain ⟨HI0, HK, HB⟩ := zD3 hI (zbm w g none) hB
 clear hI hB
 unfold spec_l00Src_byte.f at h
 obtain ⟨ASz4_0, cSz4_0, HGz4, hgz4, HSz4_0⟩ := HI0.out
 have hcz4_0 := cellS168_0 HGz4
 have hcz4_1 := cellS168_1 HGz4
 have hcz4_2 := cellS168_2 HGz4
 have hfz4_1 := zn HGz4 1
 have hfz4_2 := zn HGz4 2
 have HG0 := hgz4
 clear HGz4 hgz4
 by_cases c1 : (wrap64 (s0_1 + 1)) ≤ (s0_0.length : Int)
 rotate_left
 ·rw [if_neg c1] at h
  have c1b : decide ((wrap64 (s0_1 + 1)) ≤ (s0_0.length : Int)) = false := decide_eq_false c1
  by_cases c2 : (wrap64 (s0_1 + 1)) > 3000
  ·rw [if_pos c2] at h
   have c2b : decide (3000 < wrap64 (s0_1 + 1)) = true := decide_eq_true c2
   simp only [Option.some.injEq, Prod.mk.injEq] at h
   obtain ⟨rfl, rfl, rfl⟩ := h
   go_enter Try.func116, Try.ntmps116
   go_wp2
   repeat (go_quiet (fail); try go_wp2)
   go_ret
   exact zH10
  rw [if_neg c2] at h
  have c2b : decide (3000 < wrap64 (s0_1 + 1)) = false := decide_eq_false c2
  simp only [Option.some.injEq, Prod.mk.injEq] at h
  obtain ⟨rfl, rfl, rfl⟩ := h
  go_enter Try.func116, Try.ntmps116
  go_wp2
  repeat (go_quiet (fail); try go_wp2)
  go_ret
  exact zH10

 rw [if_pos c1] at h
 have c1b : decide ((wrap64 (s0_1 + 1)) ≤ (s0_0.length : Int)) = true := decide_eq_true c1
 by_cases c3 : 0 ≤ wrap64 ((wrap64 (s0_1 + 1)) - 1)
 rotate_left
 ·rw [if_neg c3] at h; exact absurd h (by simp)
 rw [if_pos c3] at h
 by_cases c4 : wrap64 ((wrap64 (s0_1 + 1)) - 1) < (s0_0.length : Int)
 rotate_left
 ·rw [if_neg c4] at h; exact absurd h (by simp)
 rw [if_pos c4] at h
 simp only [Option.some.injEq, Prod.mk.injEq] at h
 obtain ⟨rfl, rfl, rfl⟩ := h
 obtain ⟨ad1, e1, hx1⟩ := zao HSz4_0 _ c3 c4
 cases e1
 have hx2 := (HB.out.cell (zx w0 _ hx1)).trans hx1
 have hlt1 := zx w0 _ hx1
 have hne1 : (ad1.add (wrap64 (wrap64 (s0_1 + 1) - 1)).toNat).block ≠ g := fun e_ => by rw [e_] at hlt1; omega
 have hx3 : ∀ (j_ : Nat) (v_ : Value), (w.setCell ⟨g, j_, none⟩ v_).cell? (ad1.add (wrap64 (wrap64 (s0_1 + 1) - 1)).toNat) = some (.int .u8 (rd s0_0 (wrap64 (wrap64 (s0_1 + 1) - 1)))) := fun j_ v_ => (World.cell?_setCell_far w ⟨g, j_, none⟩ _ v_ (fun e_ => hne1 e_.symm)).trans hx2
 have hx4 : ∀ (j_ i_ n_ : Nat) (v_ u_ : Value), (((w.setCell ⟨g, j_, none⟩ v_).drewN n_).setCell ⟨g, i_, none⟩ u_).cell? (ad1.add (wrap64 (wrap64 (s0_1 + 1) - 1)).toNat) = some (.int .u8 (rd s0_0 (wrap64 (wrap64 (s0_1 + 1) - 1)))) := fun j_ i_ n_ v_ u_ => (World.cell?_setCell_far _ ⟨g, i_, none⟩ _ u_ (fun e_ => hne1 e_.symm)).trans (hx3 j_ v_)
 have c3b := eq_true c3
 have c4b := eq_true c4
 go_enter Try.func116, Try.ntmps116
 go_wp2
 repeat (go_quiet (fail); try go_wp2)
 go_region
 go_wp2
 first | go_region | skip
 go_wp2
 go_ret
 exact zH10
/-! ### spec_l00Src_next: function 56 -/
def spec_l00Src_next.f (s0_0 : List Int) (s0_1 : Int) (s0_2 : Int) (a1 : Int) : Option (Int × Int × Int) := if a1 ≤ 1 then (some (0, s0_1, s0_2)) else (if a1 ≤ 256 then ((spec_l00Src_byte.f s0_0 s0_1 s0_2).bind fun bt102 => (if a1 = 0 then (none) else (some (Int.tmod bt102.1 a1, bt102.2.1, bt102.2.2)))) else ((spec_l00Src_byte.f s0_0 s0_1 s0_2).bind fun bt105 => ((spec_l00Src_byte.f s0_0 bt105.2.1 bt105.2.2).bind fun bt108 => ((spec_l00Src_byte.f s0_0 bt108.2.1 bt108.2.2).bind fun bt111 => (if a1 = 0 then (none) else (some (Int.tmod (wrap64 ((wrap64 ((wrap64 (bt105.1 * 65536)) + (wrap64 (bt108.1 * 256)))) + bt111.1)) a1, bt111.2.1, bt111.2.2)))))))
set_option maxHeartbeats 64000000 in
set_option maxRecDepth 100000 in
theorem spec_l00Src_next.calls (g : Nat) (s0_0 : List Int) (s0_1 : Int) (s0_2 : Int) (a1 : Int) (r1 : Int) (r2 : Int) (r3 : Int) (w0 w : World) (hI : IsS168 w0 w g s0_0 s0_1 s0_2) (hB : Below w0.heap.size w0 w) (h : spec_l00Src_next.f s0_0 s0_1 s0_2 a1 = some (r1, r2, r3)) :
  Calls Try.prog 56 #[.pointer (some ⟨g, 0, none⟩), .int .i64 a1] w fun e w' => e = .returned (.int .i64 r1) ∧ IsS168 w0 w' g s0_0 r2 r3 ∧ Below w0.heap.size w0 w' ∧ KeepBut w w' g none := by
 obtain ⟨HI0, HK, HL, HW0, HB⟩ := zD5 hI (zbm w g none) hB.size hB.size hB
 clear hI hB
 have H : (if a1 ≤ 1 then (some (0, s0_1, s0_2)) else (if a1 ≤ 256 then ((spec_l00Src_byte.f s0_0 s0_1 s0_2).bind fun bt102 => (if a1 = 0 then (none) else (some (Int.tmod bt102.1 a1, bt102.2.1, bt102.2.2)))) else ((spec_l00Src_byte.f s0_0 s0_1 s0_2).bind fun bt105 => ((spec_l00Src_byte.f s0_0 bt105.2.1 bt105.2.2).bind fun bt108 => ((spec_l00Src_byte.f s0_0 bt108.2.1 bt108.2.2).bind fun bt111 => (if a1 = 0 then (none) else (some (Int.tmod (wrap64 ((wrap64 ((wrap64 (bt105.1 * 65536)) + (wrap64 (bt108.1 * 256)))) + bt111.1)) a1, bt111.2.1, bt111.2.2)))))))) = some (r1, r2, r3) := h
 clear h
 by_cases c3 : a1 ≤ 1
 ·rw [if_pos c3] at H
  have c3b0 := decide_eq_true c3
  clear c3
  simp only [Option.some.injEq, Prod.mk.injEq] at H
  obtain ⟨rfl, rfl, rfl⟩ := H
  go_enter Try.func56, Try.ntmps56
  go_wp2
  go_ret
  exact zH3
 rw [if_neg c3] at H
 have c3b0 := decide_eq_false c3
 clear c3
 by_cases c4 : a1 ≤ 256
 ·rw [if_pos c4] at H
  have c4b0 := decide_eq_true c4
  clear c4
  replace H := Option.bind_eq_some_iff.mp H
  obtain ⟨⟨t102, t103, t104⟩, A50, H⟩ := H
  replace H : (if a1 = 0 then (none) else (some (Int.tmod t102 a1, t103, t104))) = some (r1, r2, r3) := H
  have A5 := za A50
  clear A50
  by_cases c6 : a1 = 0
  ·rw [if_pos c6] at H
   exact absurd H (by simp)
  rw [if_neg c6] at H
  have c6b0 : (a1 == 0) = false := beq_eq_false_iff_ne.mpr c6
  have c6b1 : (a1 != 0) = true := bne_iff_ne.mpr c6
  simp only [Option.some.injEq, Prod.mk.injEq] at H
  obtain ⟨rfl, rfl, rfl⟩ := H
  go_enter Try.func56, Try.ntmps56
  go_wp2_with (first | ((with_reducible refine gate_callee (f := 116) rfl ?_); refine goesL_ (some 13) rfl rfl Try.func116 zG125 rfl #[.pointer (some ⟨g, 0, none⟩)] rfl zG87 ?_; (with_reducible refine (spec_l00Src_byte.calls g s0_0 s0_1 s0_2 t102 t103 t104 w0 _ ?side1 ?side2 A5.out).mono ?_); (case side1 => exact zH48); (case side2 => exact zH66); rintro e w7 ⟨rfl, hi, hb, hk⟩; refine ⟨_, rfl, ?_⟩; have n_ := zA_ (za (zbd zK172 hk (.inl rfl))) (zA_ (za (hb)) (za (hi))); clear HK HB HI0; obtain ⟨HK, HB, HI0⟩ := n_; (try clear hb); (try clear hk); (try clear hi)))
  go_ret
  exact zH3
 rw [if_neg c4] at H
 have c4b0 := decide_eq_false c4
 clear c4
 replace H := Option.bind_eq_some_iff.mp H
 obtain ⟨⟨t105, t106, t107⟩, A80, H⟩ := H
 replace H : ((spec_l00Src_byte.f s0_0 t106 t107).bind fun bt108 => ((spec_l00Src_byte.f s0_0 bt108.2.1 bt108.2.2).bind fun bt111 => (if a1 = 0 then (none) else (some (Int.tmod (wrap64 ((wrap64 ((wrap64 (t105 * 65536)) + (wrap64 (bt108.1 * 256)))) + bt111.1)) a1, bt111.2.1, bt111.2.2))))) = some (r1, r2, r3) := H
 have A8 := za A80
 clear A80
 replace H := Option.bind_eq_some_iff.mp H
 obtain ⟨⟨t108, t109, t110⟩, A90, H⟩ := H
 replace H : ((spec_l00Src_byte.f s0_0 t109 t110).bind fun bt111 => (if a1 = 0 then (none) else (some (Int.tmod (wrap64 ((wrap64 ((wrap64 (t105 * 65536)) + (wrap64 (t108 * 256)))) + bt111.1)) a1, bt111.2.1, bt111.2.2)))) = some (r1, r2, r3) := H
 have A9 := za A90
 clear A90
 replace H := Option.bind_eq_some_iff.mp H
 obtain ⟨⟨t111, t112, t113⟩, A100, H⟩ := H
 replace H : (if a1 = 0 then (none) else (some (Int.tmod (wrap64 ((wrap64 ((wrap64 (t105 * 65536)) + (wrap64 (t108 * 256)))) + t111)) a1, t112, t113))) = some (r1, r2, r3) := H
 have A10 := za A100
 clear A100
 by_cases c11 : a1 = 0
 ·rw [if_pos c11] at H
  exact absurd H (by simp)
 rw [if_neg c11] at H
 have c11b0 : (a1 == 0) = false := beq_eq_false_iff_ne.mpr c11
 have c11b1 : (a1 != 0) = true := bne_iff_ne.mpr c11
 simp only [Option.some.injEq, Prod.mk.injEq] at H
 obtain ⟨rfl, rfl, rfl⟩ := H
 go_enter Try.func56, Try.ntmps56
 go_wp2_with (first | ((with_reducible refine gate_callee (f := 116) rfl ?_); refine goesL_ (some 17) rfl rfl Try.func116 zG125 rfl #[.pointer (some ⟨g, 0, none⟩)] rfl zG87 ?_; (with_reducible refine (spec_l00Src_byte.calls g s0_0 s0_1 s0_2 t105 t106 t107 w0 _ ?side1 ?side2 A8.out).mono ?_); (case side1 => exact zH48); (case side2 => exact zH66); rintro e w12 ⟨rfl, hi, hb, hk⟩; refine ⟨_, rfl, ?_⟩; have n_ := zA_ (za (zbd zK172 hk (.inl rfl))) (zA_ (za (hb)) (za (hi))); clear HK HB HI0; obtain ⟨HK, HB, HI0⟩ := n_; (try clear hb); (try clear hk); (try clear hi)) | ((with_reducible refine gate_callee (f := 116) rfl ?_); refine goesL_ (some 19) rfl rfl Try.func116 zG125 rfl #[.pointer (some ⟨g, 0, none⟩)] rfl zG87 ?_; (with_reducible refine (spec_l00Src_byte.calls g s0_0 t106 t107 t108 t109 t110 w0 _ ?side1 ?side2 A9.out).mono ?_); (case side1 => exact zH48); (case side2 => exact zH66); rintro e w13 ⟨rfl, hi, hb, hk⟩; refine ⟨_, rfl, ?_⟩; have n_ := zA_ (za (zbd zK172 hk (.inl rfl))) (zA_ (za (hb)) (za (hi))); clear HK HB HI0; obtain ⟨HK, HB, HI0⟩ := n_; (try clear hb); (try clear hk); (try clear hi)) | ((with_reducible refine gate_callee (f := 116) rfl ?_); refine goesL_ (some 21) rfl rfl Try.func116 zG125 rfl #[.pointer (some ⟨g, 0, none⟩)] rfl zG87 ?_; (with_reducible refine (spec_l00Src_byte.calls g s0_0 t109 t110 t111 t112 t113 w0 _ ?side1 ?side2 A10.out).mono ?_); (case side1 => exact zH48); (case side2 => exact zH66); rintro e w14 ⟨rfl, hi, hb, hk⟩; refine ⟨_, rfl, ?_⟩; have n_ := zA_ (za (zbd zK172 hk (.inl rfl))) (zA_ (za (hb)) (za (hi))); clear HK HB HI0; obtain ⟨HK, HB, HI0⟩ := n_; (try clear hb); (try clear hk); (try clear hi)))
 go_ret
 exact zH3

/-! ### spec_l00Src_size: function 57 -/
def spec_l00Src_size.f (s0_0 : List Int) (s0_1 : Int) (s0_2 : Int) (a1 : Int) : Option (Int × Int × Int) := some (mn (wrap64 (1 + (wrap64 ((s0_0.length : Int) / 12)))) a1, s0_1, s0_2)
set_option maxHeartbeats 64000000 in
set_option maxRecDepth 100000 in
theorem spec_l00Src_size.calls (g : Nat) (s0_0 : List Int) (s0_1 : Int) (s0_2 : Int) (a1 : Int) (r1 : Int) (r2 : Int) (r3 : Int) (w0 w : World) (hI : IsS168 w0 w g s0_0 s0_1 s0_2) (hB : Below w0.heap.size w0 w) (h : spec_l00Src_size.f s0_0 s0_1 s0_2 a1 = some (r1, r2, r3)) :
  Calls Try.prog 57 #[.pointer (some ⟨g, 0, none⟩), .int .i64 a1] w fun e w' => e = .returned (.int .i64 r1) ∧ IsS168 w0 w' g s0_0 r2 r3 ∧ Below w0.heap.size w0 w' ∧ KeepBut w w' g none := by
 obtain ⟨HI0, HK, HL, HW0, HB⟩ := zD5 hI (zbm w g none) hB.size hB.size hB
 clear hI hB
 have H : (some (mn (wrap64 (1 + (wrap64 ((s0_0.length : Int) / 12)))) a1, s0_1, s0_2)) = some (r1, r2, r3) := h
 clear h
 obtain ⟨ji3, hji3⟩ : ∃ j_ : Int, (mn (wrap64 (1 + (wrap64 ((s0_0.length : Int) / 12)))) a1) = j_ := ⟨_, rfl⟩
 replace H : (some (ji3, s0_1, s0_2)) = some (r1, r2, r3) := by first | (rw [hji3] at H; exact H) | (simp only [hji3] at H ⊢; exact H)
 have hji3_ : (if a1 < (wrap64 (1 + (wrap64 ((s0_0.length : Int) / 12)))) then a1 else (wrap64 (1 + (wrap64 ((s0_0.length : Int) / 12))))) = ji3 := hji3
 simp only [Option.some.injEq, Prod.mk.injEq] at H
 obtain ⟨rfl, rfl, rfl⟩ := H
 obtain ⟨ASz4_0, cSz4_0, HGz4, hgz4, HSz4_0⟩ := HI0.out
 have hcz4_0 := cellS168_0 HGz4
 have hcz4_1 := cellS168_1 HGz4
 have hcz4_2 := cellS168_2 HGz4
 have hfz4_1 := zn HGz4 1
 have hfz4_2 := zn HGz4 2
 clear HGz4 hgz4
 go_enter Try.func57, Try.ntmps57
 go_wp2
 go_ret
 exact ⟨by first | rfl | (simp [errW_none, errW_some] <;> rfl) | (simp only [← hji3]; first | rfl | (simp [errW_none, errW_some] <;> rfl)) | (simp [*, errW_none, errW_some] <;> rfl), zH47, zH63, zH64⟩

/-! ### spec_l00Src_order: function 58 -/
mutual
def spec_l00Src_order.l0 : Nat → Int → List Int → List Int → Int → Int → Option (List Int × Int × Int)
 | 0, _, _, _, _, _ => none
 | k + 1, x1, x5, x1000, x1001, x1002 => if (x5.length : Int) < x1 then ((spec_l00Src_next.f x1000 x1001 x1002 x1).bind fun bt117 => (spec_l00Src_order.l1 k x1 x5 bt117.1 0 x1000 bt117.2.1 bt117.2.2)) else (some (x5, x1001, x1002))
def spec_l00Src_order.l1 : Nat → Int → List Int → Int → Int → List Int → Int → Int → Option (List Int × Int × Int)
 | 0, _, _, _, _, _, _, _ => none
 | k + 1, x1, x5, x6, x7, x1000, x1001, x1002 => if x7 < (x5.length : Int) then (if 0 ≤ x7 then (if (rd x5 x7) = x6 then (if x1 = 0 then (none) else (spec_l00Src_order.l1 k x1 x5 (Int.tmod (wrap64 (x6 + 1)) x1) ((-1) + 1) x1000 x1001 x1002)) else (spec_l00Src_order.l1 k x1 x5 x6 (wrap64 (x7 + 1)) x1000 x1001 x1002)) else (none)) else (if x5.length < 17592186044416 then (spec_l00Src_order.l0 k x1 (x5 ++ [x6]) x1000 x1001 x1002) else (none))
end
def spec_l00Src_order.f (k : Nat) (s0_0 : List Int) (s0_1 : Int) (s0_2 : Int) (a1 : Int) : Option (List Int × Int × Int) := spec_l00Src_order.l0 k a1 (([] : List Int)) s0_0 s0_1 s0_2
theorem spec_l00Src_order.mono_l : ∀ k, (∀ y0 y1 y2 y3 y4, LeO (spec_l00Src_order.l0 k y0 y1 y2 y3 y4) (spec_l00Src_order.l0 (k + 1) y0 y1 y2 y3 y4)) ∧ (∀ y0 y1 y2 y3 y4 y5 y6, LeO (spec_l00Src_order.l1 k y0 y1 y2 y3 y4 y5 y6) (spec_l00Src_order.l1 (k + 1) y0 y1 y2 y3 y4 y5 y6))
 | 0 => ⟨fun _ _ _ _ _ r h => by simp [spec_l00Src_order.l0] at h, fun _ _ _ _ _ _ _ r h => by simp [spec_l00Src_order.l1] at h⟩
 | k + 1 => by
  obtain ⟨ih0, ih1⟩ := spec_l00Src_order.mono_l k
  refine ⟨?_, ?_⟩
  ·intro y0 y1 y2 y3 y4
   unfold spec_l00Src_order.l0
   repeat' first
   | (with_reducible exact ih0 _ _ _ _ _)
   | (with_reducible exact ih1 _ _ _ _ _ _ _)
   | (with_reducible exact LeO.refl _)
   | (with_reducible exact LeO.none _)
   | (with_reducible refine LeO.ite ?_ ?_)
   | (with_reducible refine LeO.bind ?_ (fun _ => ?_))
   | exact ih0 _ _ _ _ _
   | exact ih1 _ _ _ _ _ _ _
   | exact LeO.none _
   | refine LeO.ite ?_ ?_
   | refine LeO.bind ?_ (fun _ => ?_)
  ·intro y0 y1 y2 y3 y4 y5 y6
   unfold spec_l00Src_order.l1
   repeat' first
   | (with_reducible exact ih0 _ _ _ _ _)
   | (with_reducible exact ih1 _ _ _ _ _ _ _)
   | (with_reducible exact LeO.refl _)
   | (with_reducible exact LeO.none _)
   | (with_reducible refine LeO.ite ?_ ?_)
   | (with_reducible refine LeO.bind ?_ (fun _ => ?_))
   | exact ih0 _ _ _ _ _
   | exact ih1 _ _ _ _ _ _ _
   | exact LeO.none _
   | refine LeO.ite ?_ ?_
   | refine LeO.bind ?_ (fun _ => ?_)
theorem spec_l00Src_order.mono : ∀ a0 a1 a2 a3 k, LeO (spec_l00Src_order.f k a0 a1 a2 a3) (spec_l00Src_order.f (k + 1) a0 a1 a2 a3) := by
 intro a0 a1 a2 a3 k
 obtain ⟨ih0, ih1⟩ := spec_l00Src_order.mono_l k
 unfold spec_l00Src_order.f
 repeat' first
   | (with_reducible exact ih0 _ _ _ _ _)
   | (with_reducible exact ih1 _ _ _ _ _ _ _)
   | (with_reducible exact LeO.refl _)
   | (with_reducible exact LeO.none _)
   | (with_reducible refine LeO.ite ?_ ?_)
   | (with_reducible refine LeO.bind ?_ (fun _ => ?_))
   | exact ih0 _ _ _ _ _
   | exact ih1 _ _ _ _ _ _ _
   | exact LeO.none _
   | refine LeO.ite ?_ ?_
   | refine LeO.bind ?_ (fun _ => ?_)
set_option maxHeartbeats 64000000 in
set_option maxRecDepth 100000 in
theorem spec_l00Src_order.calls (k : Nat) (g : Nat) (s0_0 : List Int) (s0_1 : Int) (s0_2 : Int) (a1 : Int) (r1 : List Int) (r2 : Int) (r3 : Int) (w0 w : World) (hI : IsS168 w0 w g s0_0 s0_1 s0_2) (hB : Below w0.heap.size w0 w) (h : spec_l00Src_order.f k s0_0 s0_1 s0_2 a1 = some (r1, r2, r3)) :
  Calls Try.prog 58 #[.pointer (some ⟨g, 0, none⟩), .int .i64 a1] w fun e w' => ∃ v0_ : Value, e = .returned (v0_) ∧ Kd.R (Kd.int .i64) 3 w' w.heap.size (fun _ => True) v0_ r1 ∧ IsS168 w0 w' g s0_0 r2 r3 ∧ Below w0.heap.size w0 w' ∧ KeepBut w w' g none := by
 obtain ⟨HI0, HK, HL, HW0, HB⟩ := zD5 hI (zbm w g none) hB.size hB.size hB
 clear hI hB
 have H : (spec_l00Src_order.l0 k a1 (([] : List Int)) s0_0 s0_1 s0_2) = some (r1, r2, r3) := h
 clear h
 obtain ⟨y114, hy114⟩ : ∃ y_ : List Int, y_ = (([] : List Int)) := ⟨_, rfl⟩
 replace H : (spec_l00Src_order.l0 k a1 y114 s0_0 s0_1 s0_2) = some (r1, r2, r3) := by first | (rw [hy114]; with_reducible exact H) | (have H2_ := (Option.bind_some _ _).symm.trans H; rw [hy114]; with_reducible exact H2_) | (have H2_ := (Option.bind_some _ _).symm.trans H; with_reducible exact H2_) | with_reducible exact H | (rw [hy114]; exact H) | exact H
 have Ny114 := za hy114
 clear hy114
 have H' := za H
 clear H
 go_enter Try.func58, Try.ntmps58
 go_wp2_with (first | ((with_reducible refine gate_dst (N := 8) rfl ?_); refine zbg (Kd.int .i64) _ 3 ?hg (N := 8) ?hd (xs := ([] : List Int)) (inner := []) (ok := fun _ => True) (okp := fun _ => True) ?hr ?hp (fun _ hk => hk) trivial (Below.refl _ _) (Nat.le_refl _) (by simp) ?_; (case hd => rfl); (case hg => rfl); (case hr => exact zH103); (case hp => exact (Reps.none _ _)); intro v115 w3 ho4 hb hg_ hnew_; clear hg_ hnew_; (first | rw [← Ny114.out] at ho4 | (simp only [Int.reduceToNat] at ho4; rw [← Ny114.out] at ho4)); have n_ := zA_ (za (zae ho4 (keep_size (w := w) (g := g) (row := none) zK172))) (zA_ (za (IsS168.below (by repeat (first | (with_reducible first | exact HI0.out | apply IsS168.alloc | apply IsS168.drewN | apply IsS168.drew | apply IsS168.set_1 | apply IsS168.set_2) | exact HI0.out)) hb)) (zA_ (za (zbd zK172 (KeepBut.of_below hb g none) (.inl rfl))) (za (zv zK173 hb)))); clear HI0 HK HB; obtain ⟨HO116, HI0, HK, HB⟩ := n_; clear hb ho4))
 go_loopg [5] k (fun kq v5 w' => ∃ (x5_1 : List Int) (x1001_1 : Int) (x1002_1 : Int), Aside0 (spec_l00Src_order.l0 kq a1 x5_1 s0_0 x1001_1 x1002_1 = some (r1, r2, r3)) ∧ Aside0 (kq ≤ k) ∧ Aside0 (Kd.R (Kd.int .i64) 3 w' w.heap.size (fun _ => True) v5 x5_1) ∧ Aside0 (IsS168 w0 w' g s0_0 x1001_1 x1002_1) ∧ Aside0 (KeepBut w w' g none) ∧ Aside0 (Below w0.heap.size w0 w'))
 case atStart => exact ⟨(y114), (s0_1), (s0_2), H', ⟨Nat.le_refl _⟩, ⟨by (with_reducible repeat (first | apply zf | apply zg | apply zh)); exact HO116.out⟩, ⟨zH47⟩, ⟨zH64⟩, ⟨zH63⟩⟩
 case round =>
  clear H'
  obtain ⟨x5_1, x1001_1, x1002_1, HA, HK1, HO_5, HI0, HK, HB⟩ := hrel
  cases gk with
  | zero => exact absurd HA.out (by simp [spec_l00Src_order.l0])
  | succ k1 =>
   have H := HA.out
   clear HA
   simp only [spec_l00Src_order.l0] at H
   by_cases c5 : (x5_1.length : Int) < a1
   rotate_left
   ·rw [if_neg c5] at H
    have c5b0 := decide_eq_false c5
    clear c5
    simp only [Option.some.injEq, Prod.mk.injEq] at H
    obtain ⟨rfl, rfl, rfl⟩ := H
    obtain ⟨Ao15, co15, eo15⟩ := zad HO_5.out
    subst eo15
    go_wp2
    go_ret
    exact ⟨_, zH92, zH98, zH47, zH63, zH64⟩

   rw [if_pos c5] at H
   have c5b0 := decide_eq_true c5
   clear c5
   replace H := Option.bind_eq_some_iff.mp H
   obtain ⟨⟨t117, t118, t119⟩, A60, H⟩ := H
   replace H : (spec_l00Src_order.l1 k1 a1 x5_1 t117 0 s0_0 t118 t119) = some (r1, r2, r3) := H
   have A6 := za A60
   clear A60
   have H' := za H
   clear H
   obtain ⟨Ao7, co7, eo7⟩ := zad HO_5.out
   subst eo7
   go_wp2_with (first | ((with_reducible refine gate_callee (f := 56) rfl ?_); refine goesL_ (some 15) rfl rfl Try.func56 zG125 rfl #[.pointer (some ⟨g, 0, none⟩), .int .i64 a1] rfl zG87 ?_; (with_reducible refine (spec_l00Src_next.calls g s0_0 x1001_1 x1002_1 a1 t117 t118 t119 w0 _ ?side1 ?side2 A6.out).mono ?_); (case side1 => exact zH48); (case side2 => exact zH66); rintro e w8 ⟨rfl, hi, hb, hk⟩; refine ⟨_, rfl, ?_⟩; have n_ := zA_ (za (zo (zbe (IsS168.apart (show IsS168 w0 _ g s0_0 x1001_1 x1002_1 from by repeat (first | (with_reducible first | exact HI0.out | apply IsS168.alloc | apply IsS168.drewN | apply IsS168.drew | apply IsS168.set_1 | apply IsS168.set_2) | exact HI0.out)) (by (with_reducible repeat (first | apply zf | apply zg | apply zh)); exact HO_5.out) zG126) hk (fun _ h => h.2)) (fun _ h => h.1))) (zA_ (za (zbd zK172 hk (.inl rfl))) (zA_ (za (hb)) (za (hi)))); clear HO_5 HK HB HI0; obtain ⟨HO_5, HK, HB, HI0⟩ := n_; (try clear hb); (try clear hk); (try clear hi)))
   go_loopg [6, 7] k1 (fun kq v6 v7 w' => ∃ (x6_2 : Int) (x7_2 : Int), v6 = .int .i64 x6_2 ∧ v7 = .int .i64 x7_2 ∧ Aside0 (spec_l00Src_order.l1 kq a1 x5_1 x6_2 x7_2 s0_0 t118 t119 = some (r1, r2, r3)) ∧ Aside0 (kq ≤ k1) ∧ Aside0 (Kd.R (Kd.int .i64) 3 w' w.heap.size (fun _ => True) (.slice Ao7 x5_1.length co7) x5_1) ∧ Aside0 (IsS168 w0 w' g s0_0 t118 t119) ∧ Aside0 (KeepBut w w' g none) ∧ Aside0 (Below w0.heap.size w0 w'))
   case atStart => exact ⟨(t117), (0), zG124, zG124, H', ⟨Nat.le_refl _⟩, ⟨zH98⟩, ⟨zH47⟩, ⟨zH64⟩, ⟨zH63⟩⟩
   case round =>
    clear H'
    try clear c5
    try clear c5b0
    obtain ⟨x6_2, x7_2, rfl, rfl, HA, HK2, HO_5, HI0, HK, HB⟩ := hrel
    cases gk with
    | zero => exact absurd HA.out (by simp [spec_l00Src_order.l1])
    | succ k2 =>
     have H := HA.out
     clear HA
     simp only [spec_l00Src_order.l1] at H
     by_cases c9 : x7_2 < (x5_1.length : Int)
     rotate_left
     ·rw [if_neg c9] at H
      have c9b0 := decide_eq_false c9
      clear c9
      by_cases c13 : x5_1.length < 17592186044416
      rotate_left
      ·rw [if_neg c13] at H
       exact absurd H (by simp)
      rw [if_pos c13] at H
      have LMc13 := za c13
      clear c13
      obtain ⟨y121, hy121⟩ : ∃ y_ : List Int, y_ = (x5_1 ++ [x6_2]) := ⟨_, rfl⟩
      replace H : (spec_l00Src_order.l0 k2 a1 y121 s0_0 t118 t119) = some (r1, r2, r3) := by first | (rw [hy121]; with_reducible exact H) | (have H2_ := (Option.bind_some _ _).symm.trans H; rw [hy121]; with_reducible exact H2_) | (have H2_ := (Option.bind_some _ _).symm.trans H; with_reducible exact H2_) | with_reducible exact H | (rw [hy121]; exact H) | exact H
      have Ny121 := za hy121
      clear hy121
      have H' := za H
      clear H
      go_wp2_with (first | ((with_reducible refine gate_builtin (b := .append) (xs := #[.tmp 32, .tmp 34]) rfl ?_); at_builtin; refine zaz (Kd.int .i64) w.heap.size rfl (.tmp 32) (.tmp 34) 24 3 (.int .i64 0) 8 rfl Try.underlying24 info3 rfl zG126 (by omega) (.slice Ao7 x5_1.length co7) x5_1 x6_2 [.int .i64 x6_2] (fun _ => True) (fun _ => False) rfl rfl ?aP (fun _ hk => hk.elim) ?aF ?aO (Below.refl _ _) ?aS ?aL ?_; (case aP => exact rfl); (case aF => exact (fun _ _ => trivial)); (case aO => exact (by (with_reducible repeat (first | apply zf | apply zg | apply zh)); exact HO_5.out)); (case aS => exact (keep_size (w := w) (g := g) (row := none) zK172)); (case aL => have := LMc13.out; omega); intro v122 w14 ho hb hg hat; rw [← Ny121.out] at ho; have n_ := zA_ (za (IsS168.grown (show IsS168 w0 _ g s0_0 t118 t119 from by repeat (first | (with_reducible first | exact HI0.out | apply IsS168.alloc | apply IsS168.drewN | apply IsS168.drew | apply IsS168.set_1 | apply IsS168.set_2) | exact HI0.out)) hg (IsS168.own_ne HI0.out HO_5.out zG126))) (zA_ (za (below_weaken zK173 HL.out hb)) (zA_ (za (zbd zK172 (KeepBut.of_grown hg g) (Kd.R_base2 HO_5.out))) (za (ho)))); clear HI0 HB HK HO_5; obtain ⟨HI0, HB, HK, HO123⟩ := n_; clear ho hb hg hat))
      go_roundg k2
      case measure => have := HK1.out; have := HK2.out; omega
      case rel => exact ⟨(y121), (t118), (t119), H', ⟨zH102⟩, ⟨by (with_reducible repeat (first | apply zf | apply zg | apply zh)); exact HO123.out⟩, ⟨zH47⟩, ⟨zH64⟩, ⟨zH63⟩⟩
     rw [if_pos c9] at H
     have c9b0 := decide_eq_true c9
     clear c9
     by_cases c10 : 0 ≤ x7_2
     rotate_left
     ·rw [if_neg c10] at H
      exact absurd H (by simp)
     rw [if_pos c10] at H
     have c10b0 := decide_eq_true c10
     clear c10
     by_cases c11 : (rd x5_1 x7_2) = x6_2
     rotate_left
     ·rw [if_neg c11] at H
      have c11b0 : ((rd x5_1 x7_2) == x6_2) = false := beq_eq_false_iff_ne.mpr c11
      have c11b1 : ((rd x5_1 x7_2) != x6_2) = true := bne_iff_ne.mpr c11
      have H' := za H
      clear H
      have p120 : 0 ≤ (x7_2 : Int) := zO
      have q120 : x7_2 < (x5_1.length : Int) := zO
      obtain ⟨ad120, e120, hx120_0⟩ := zao (zw HO_5.out).2.2 x7_2 p120 q120
      cases e120
      replace p120 := eq_true p120
      replace q120 := eq_true q120
      go_wp2
      go_roundg k2
      case measure => have := HK1.out; have := HK2.out; omega
      case rel => exact ⟨(x6_2), (wrap64 (x7_2 + 1)), zG124, zG124, H', ⟨zH102⟩, ⟨zH98⟩, ⟨zH47⟩, ⟨zH64⟩, ⟨zH63⟩⟩
     rw [if_pos c11] at H
     have c11b0 : ((rd x5_1 x7_2) == x6_2) = true := beq_iff_eq.mpr c11
     have c11b1 : ((rd x5_1 x7_2) != x6_2) = false := bne_eq_false_iff_eq.mpr c11
     clear c11
     by_cases c12 : a1 = 0
     ·rw [if_pos c12] at H
      exact absurd H (by simp)
     rw [if_neg c12] at H
     have c12b0 : (a1 == 0) = false := beq_eq_false_iff_ne.mpr c12
     have c12b1 : (a1 != 0) = true := bne_iff_ne.mpr c12
     have H' := za H
     clear H
     have p120 : 0 ≤ (x7_2 : Int) := zO
     have q120 : x7_2 < (x5_1.length : Int) := zO
     obtain ⟨ad120, e120, hx120_0⟩ := zao (zw HO_5.out).2.2 x7_2 p120 q120
     cases e120
     replace p120 := eq_true p120
     replace q120 := eq_true q120
     go_wp2
     go_roundg k2
     case measure => have := HK1.out; have := HK2.out; omega
     case rel => exact ⟨(Int.tmod (wrap64 (x6_2 + 1)) a1), ((-1) + 1), zG124, zG124, H', ⟨zH102⟩, ⟨zH98⟩, ⟨zH47⟩, ⟨zH64⟩, ⟨zH63⟩⟩
/-! ### spec_StopsOf: function 9 -/
def spec_StopsOf.l0 : Nat → List (S37) → Int → List Int → Int → Int → Option ((List (S37)) × Int × List Int)
 | 0, _, _, _, _, _ => none
 | k + 1, x6, x7, x128000, x128001, x128002 => if x7 > 0 then ((spec_l00Src_next.f x128000 x128001 x128002 60).bind fun bt145 => ((spec_l00Src_next.f x128000 bt145.2.1 bt145.2.2 41).bind fun bt148 => ((spec_l00Src_next.f x128000 bt148.2.1 bt148.2.2 41).bind fun bt151 => ((spec_l00Src_next.f x128000 bt151.2.1 bt151.2.2 200).bind fun bt154 => ((spec_l00Src_next.f x128000 bt154.2.1 bt154.2.2 12).bind fun bt157 => (if x6.length < 3518437208883 then (spec_StopsOf.l0 k (x6 ++ [(⟨wrap64 (bt148.1 - 20), wrap64 (bt151.1 - 20), bt145.1, wrap64 ((wrap64 (bt145.1 + 20)) + bt154.1), bt157.1⟩ : S37)]) (wrap64 (x7 - 1)) x128000 bt157.2.1 bt157.2.2) else (none))))))) else ((spec_l00Src_next.f x128000 x128001 x128002 30).bind fun bt137 => ((spec_l00Src_order.f k x128000 bt137.2.1 bt137.2.2 (x6.length : Int)).bind fun bt140 => (some (x6, bt137.1, bt140.1))))
def spec_StopsOf.f (k : Nat) (l0 : List Int) : Option ((List (S37)) × Int × List Int) := (spec_l00Source.f l0).bind fun bt124 => ((spec_l00Src_size.f bt124.1 bt124.2.1 bt124.2.2 5).bind fun bt131 => ((spec_l00Src_next.f bt124.1 bt131.2.1 bt131.2.2 (wrap64 (bt131.1 + 1))).bind fun bt134 => (spec_StopsOf.l0 k (([] : List (S37))) bt134.1 bt124.1 bt134.2.1 bt134.2.2)))
theorem spec_StopsOf.mono_l : ∀ k, (∀ y0 y1 y2 y3 y4, LeO (spec_StopsOf.l0 k y0 y1 y2 y3 y4) (spec_StopsOf.l0 (k + 1) y0 y1 y2 y3 y4))
 | 0 => fun _ _ _ _ _ r h => by simp [spec_StopsOf.l0] at h
 | k + 1 => by
  have ih0 := spec_StopsOf.mono_l k
  ·intro y0 y1 y2 y3 y4
   unfold spec_StopsOf.l0
   repeat' first
   | (with_reducible exact ih0 _ _ _ _ _)
   | (with_reducible exact spec_l00Src_order.mono _ _ _ _ _)
   | (with_reducible exact LeO.refl _)
   | (with_reducible exact LeO.none _)
   | (with_reducible refine LeO.ite ?_ ?_)
   | (with_reducible refine LeO.bind ?_ (fun _ => ?_))
   | exact ih0 _ _ _ _ _
   | exact spec_l00Src_order.mono _ _ _ _ _
   | exact LeO.none _
   | refine LeO.ite ?_ ?_
   | refine LeO.bind ?_ (fun _ => ?_)
theorem spec_StopsOf.mono : ∀ a0 k, LeO (spec_StopsOf.f k a0) (spec_StopsOf.f (k + 1) a0) := by
 intro a0 k
 have ih0 := spec_StopsOf.mono_l k
 unfold spec_StopsOf.f
 repeat' first
   | (with_reducible exact ih0 _ _ _ _ _)
   | (with_reducible exact spec_l00Src_order.mono _ _ _ _ _)
   | (with_reducible exact LeO.refl _)
   | (with_reducible exact LeO.none _)
   | (with_reducible refine LeO.ite ?_ ?_)
   | (with_reducible refine LeO.bind ?_ (fun _ => ?_))
   | exact ih0 _ _ _ _ _
   | exact spec_l00Src_order.mono _ _ _ _ _
   | exact LeO.none _
   | refine LeO.ite ?_ ?_
   | refine LeO.bind ?_ (fun _ => ?_)
set_option maxHeartbeats 64000000 in
set_option maxRecDepth 100000 in
theorem spec_StopsOf.calls (k : Nat) (A0 : Option Addr) (c0 : Nat) (l0 : List Int) (r1 : List (S37)) (r2 : Int) (r3 : List Int) (w : World) (hr0 : Kd.C (Kd.int .u8) w A0 l0.length l0) (hc0 : l0.length ≤ c0) (h : spec_StopsOf.f k l0 = some (r1, r2, r3)) :
  Calls Try.prog 9 #[.slice A0 l0.length c0] w fun e w' => ∃ v0_ v2_ : Value, e = .returned (.tuple #[v0_, .int .i64 r2, v2_]) ∧ Kd.R k37 37 w' w.heap.size (fun _ => True) v0_ r1 ∧ Kd.R (Kd.int .i64) 3 w' w.heap.size (fun _ => True) v2_ r3 ∧ Below w.heap.size w w' := by
 have hu37 := Try.underlying37
 obtain ⟨HR0, HC0, HB⟩ := zD3 hr0 hc0 (Below.refl w.heap.size w)
 clear hr0 hc0
 have H : ((spec_l00Source.f l0).bind fun bt124 => ((spec_l00Src_size.f bt124.1 bt124.2.1 bt124.2.2 5).bind fun bt131 => ((spec_l00Src_next.f bt124.1 bt131.2.1 bt131.2.2 (wrap64 (bt131.1 + 1))).bind fun bt134 => (spec_StopsOf.l0 k (([] : List (S37))) bt134.1 bt124.1 bt134.2.1 bt134.2.2)))) = some (r1, r2, r3) := h
 clear h
 replace H := Option.bind_eq_some_iff.mp H
 obtain ⟨⟨t124, t125, t126⟩, A20, H⟩ := H
 replace H : ((spec_l00Src_size.f t124 t125 t126 5).bind fun bt131 => ((spec_l00Src_next.f t124 bt131.2.1 bt131.2.2 (wrap64 (bt131.1 + 1))).bind fun bt134 => (spec_StopsOf.l0 k (([] : List (S37))) bt134.1 t124 bt134.2.1 bt134.2.2))) = some (r1, r2, r3) := H
 have A2 := za A20
 clear A20
 obtain ⟨y128, hy128⟩ : ∃ y_ : List (S37), y_ = (([] : List (S37))) := ⟨_, rfl⟩
 replace H : ((spec_l00Src_size.f t124 t125 t126 5).bind fun bt131 => ((spec_l00Src_next.f t124 bt131.2.1 bt131.2.2 (wrap64 (bt131.1 + 1))).bind fun bt134 => (spec_StopsOf.l0 k y128 bt134.1 t124 bt134.2.1 bt134.2.2))) = some (r1, r2, r3) := by first | (rw [hy128]; with_reducible exact H) | (have H2_ := (Option.bind_some _ _).symm.trans H; rw [hy128]; with_reducible exact H2_) | (have H2_ := (Option.bind_some _ _).symm.trans H; with_reducible exact H2_) | with_reducible exact H | (rw [hy128]; exact H) | exact H
 have Ny128 := za hy128
 clear hy128
 replace H := Option.bind_eq_some_iff.mp H
 obtain ⟨⟨t131, t132, t133⟩, A30, H⟩ := H
 replace H : ((spec_l00Src_next.f t124 t132 t133 (wrap64 (t131 + 1))).bind fun bt134 => (spec_StopsOf.l0 k y128 bt134.1 t124 bt134.2.1 bt134.2.2)) = some (r1, r2, r3) := H
 have A3 := za A30
 clear A30
 replace H := Option.bind_eq_some_iff.mp H
 obtain ⟨⟨t134, t135, t136⟩, A40, H⟩ := H
 replace H : (spec_StopsOf.l0 k y128 t134 t124 t135 t136) = some (r1, r2, r3) := H
 have A4 := za A40
 clear A40
 have H' := za H
 clear H
 go_enter Try.func9, Try.ntmps9
 go_wp2_with (first | ((with_reducible refine gate_callee (f := 55) rfl ?_); refine goesL_ (some 10) rfl rfl Try.func55 zG125 rfl #[.slice A0 l0.length c0] rfl zG87 ?_; (with_reducible refine (spec_l00Source.calls _ _ l0 t124 t125 t126 w _ ?side1 ?side2 ?side3 A2.out).mono ?_); (case side1 => repeat (first | (with_reducible first | exact HB.out | apply zm | apply zj | apply zk) | exact HB.out)); (case side2 => exact HR0.out); (case side3 => exact zH110); rintro e w5 ⟨g127, rfl, hi, hb, hb2⟩; refine ⟨_, rfl, ?_⟩; have n_ := zA_ (za (hb)) (za (hi)); clear HB; obtain ⟨HB, HI127⟩ := n_; (try clear hb); (try clear hb2); (try clear hk); (try clear hi)) | ((with_reducible refine gate_dst (N := 11) rfl ?_); refine zbg k37 _ 37 ?hg (N := 11) ?hd (xs := ([] : List (S37))) (inner := []) (ok := fun _ => True) (okp := fun _ => True) ?hr ?hp (fun _ hk => hk) trivial (Below.refl _ _) (Nat.le_refl _) (by simp) ?_; (case hd => rfl); (case hg => rfl); (case hr => exact zH103); (case hp => exact (Reps.none _ _)); intro v129 w6 ho7 hb hg_ hnew_; clear hg_ hnew_; (first | rw [← Ny128.out] at ho7 | (simp only [Int.reduceToNat] at ho7; rw [← Ny128.out] at ho7)); have n_ := zA_ (za (zae ho7 (zt zK171))) (zA_ (za (IsS168.below (by repeat (first | (with_reducible first | exact HI127.out | apply IsS168.alloc | apply IsS168.drewN | apply IsS168.drew | apply IsS168.set_1 | apply IsS168.set_2) | exact HI127.out)) hb)) (za (zv zK171 hb))); clear HI127 HB; obtain ⟨HO130, HI127, HB⟩ := n_; clear hb ho7) | ((with_reducible refine gate_callee (f := 57) rfl ?_); refine goesL_ (some 14) rfl rfl Try.func57 zG125 rfl #[.pointer (some ⟨g127, 0, none⟩), .int .i64 5] rfl zG87 ?_; (with_reducible refine (spec_l00Src_size.calls g127 t124 t125 t126 5 t131 t132 t133 w _ ?side1 ?side2 A3.out).mono ?_); (case side1 => exact zH46); (case side2 => exact zH65); rintro e w8 ⟨rfl, hi, hb, hk⟩; refine ⟨_, rfl, ?_⟩; have n_ := zA_ (za (zo (zbe (IsS168.apart (show IsS168 w _ g127 t124 t125 t126 from by repeat (first | (with_reducible first | exact HI127.out | apply IsS168.alloc | apply IsS168.drewN | apply IsS168.drew | apply IsS168.set_1 | apply IsS168.set_2) | exact HI127.out)) (by (with_reducible repeat (first | apply zf | apply zg | apply zh)); exact HO130.out) zG126) hk (fun _ h => h.2)) (fun _ h => h.1))) (zA_ (za (hb)) (za (hi))); clear HO130 HB HI127; obtain ⟨HO130, HB, HI127⟩ := n_; (try clear hb); (try clear hb2); (try clear hk); (try clear hi)) | ((with_reducible refine gate_callee (f := 56) rfl ?_); refine goesL_ (some 16) rfl rfl Try.func56 zG125 rfl #[.pointer (some ⟨g127, 0, none⟩), .int .i64 (wrap64 (t131 + 1))] rfl zG87 ?_; (with_reducible refine (spec_l00Src_next.calls g127 t124 t132 t133 (wrap64 (t131 + 1)) t134 t135 t136 w _ ?side1 ?side2 A4.out).mono ?_); (case side1 => exact zH46); (case side2 => exact zH65); rintro e w9 ⟨rfl, hi, hb, hk⟩; refine ⟨_, rfl, ?_⟩; have n_ := zA_ (za (zo (zbe (IsS168.apart (show IsS168 w _ g127 t124 t132 t133 from by repeat (first | (with_reducible first | exact HI127.out | apply IsS168.alloc | apply IsS168.drewN | apply IsS168.drew | apply IsS168.set_1 | apply IsS168.set_2) | exact HI127.out)) (by (with_reducible repeat (first | apply zf | apply zg | apply zh)); exact HO130.out) zG126) hk (fun _ h => h.2)) (fun _ h => h.1))) (zA_ (za (hb)) (za (hi))); clear HO130 HB HI127; obtain ⟨HO130, HB, HI127⟩ := n_; (try clear hb); (try clear hb2); (try clear hk); (try clear hi)))
 go_loopg [6, 7] k (fun kq v6 v7 w' => ∃ (x6_1 : List (S37)) (x7_1 : Int) (x128001_1 : Int) (x128002_1 : Int), v7 = .int .i64 x7_1 ∧ Aside0 (spec_StopsOf.l0 kq x6_1 x7_1 t124 x128001_1 x128002_1 = some (r1, r2, r3)) ∧ Aside0 (kq ≤ k) ∧ Aside0 (Kd.R k37 37 w' w.heap.size (fun _ => True) v6 x6_1) ∧ Aside0 (IsS168 w w' g127 t124 x128001_1 x128002_1) ∧ Aside0 (Below w.heap.size w w'))
 case atStart => exact ⟨(y128), (t134), (t135), (t136), zG124, H', ⟨Nat.le_refl _⟩, ⟨by (with_reducible repeat (first | apply zf | apply zg | apply zh)); exact HO130.out⟩, ⟨zH42⟩, ⟨zH62⟩⟩
 case round =>
  clear H'
  obtain ⟨x6_1, x7_1, x128001_1, x128002_1, rfl, HA, HK1, HO_6, HI127, HB⟩ := hrel
  cases gk with
  | zero => exact absurd HA.out (by simp [spec_StopsOf.l0])
  | succ k1 =>
   have H := HA.out
   clear HA
   simp only [spec_StopsOf.l0] at H
   by_cases c10 : x7_1 > 0
   rotate_left
   ·rw [if_neg c10] at H
    have c10b0 : decide (0 < x7_1) = false := decide_eq_false c10
    clear c10
    replace H := Option.bind_eq_some_iff.mp H
    obtain ⟨⟨t137, t138, t139⟩, A230, H⟩ := H
    replace H : ((spec_l00Src_order.f k1 t124 t138 t139 (x6_1.length : Int)).bind fun bt140 => (some (x6_1, t137, bt140.1))) = some (r1, r2, r3) := H
    have A23 := za A230
    clear A230
    replace H := Option.bind_eq_some_iff.mp H
    obtain ⟨⟨t140, t143, t144⟩, A240, H⟩ := H
    replace H : (some (x6_1, t137, t140)) = some (r1, r2, r3) := H
    have A24 := za A240
    clear A240
    simp only [Option.some.injEq, Prod.mk.injEq] at H
    obtain ⟨rfl, rfl, rfl⟩ := H
    go_wp2_with (first | ((with_reducible refine gate_callee (f := 56) rfl ?_); refine goesL_ (some 43) rfl rfl Try.func56 zG125 rfl #[.pointer (some ⟨g127, 0, none⟩), .int .i64 30] rfl zG87 ?_; (with_reducible refine (spec_l00Src_next.calls g127 t124 x128001_1 x128002_1 30 t137 t138 t139 w _ ?side1 ?side2 A23.out).mono ?_); (case side1 => exact zH46); (case side2 => exact zH65); rintro e w25 ⟨rfl, hi, hb, hk⟩; refine ⟨_, rfl, ?_⟩; have n_ := zA_ (za (zo (zbe (IsS168.apart (show IsS168 w _ g127 t124 x128001_1 x128002_1 from by repeat (first | (with_reducible first | exact HI127.out | apply IsS168.alloc | apply IsS168.drewN | apply IsS168.drew | apply IsS168.set_1 | apply IsS168.set_2) | exact HI127.out)) zK219 zG126) hk (fun _ h => h.2)) (fun _ h => h.1))) (zA_ (za (hb)) (za (hi))); clear HO_6 HB HI127; obtain ⟨HO_6, HB, HI127⟩ := n_; (try clear hb); (try clear hk); (try clear hi); obtain ⟨Ao26, co26, eo26⟩ := zad HO_6.out; subst eo26) | ((with_reducible refine gate_callee (f := 58) rfl ?_); refine goesL_ (some 47) rfl rfl Try.func58 zG125 rfl #[.pointer (some ⟨g127, 0, none⟩), .int .i64 (x6_1.length : Int)] rfl zG87 ?_; (with_reducible refine (spec_l00Src_order.calls k1 g127 t124 t138 t139 (x6_1.length : Int) t140 t143 t144 w _ ?side1 ?side2 A24.out).mono ?_); (case side1 => exact zH46); (case side2 => exact zH65); rintro e w27 ⟨v141, rfl, ho0, hi, hb, hk⟩; refine ⟨_, rfl, ?_⟩; have n_ := zA_ (za (zo (zbe (IsS168.apart (show IsS168 w _ g127 t124 t138 t139 from by repeat (first | (with_reducible first | exact HI127.out | apply IsS168.alloc | apply IsS168.drewN | apply IsS168.drew | apply IsS168.set_1 | apply IsS168.set_2) | exact HI127.out)) zK219 zG126) hk (fun _ h => h.2)) (fun _ h => h.1))) (zA_ (za (zae ho0 (zt zK171))) (zA_ (za (hb)) (za (hi)))); clear HO_6 HB HI127; obtain ⟨HO_6, HO142, HB, HI127⟩ := n_; (try clear hb); (try clear hk); (try clear hi); (try clear ho0)))
    go_ret3
    exact ⟨_, _, zH92, by (with_reducible repeat (first | apply zf | apply zg | apply zh)); exact HO_6.out, by (with_reducible repeat (first | apply zf | apply zg | apply zh)); exact HO142.out, zH62⟩

   rw [if_pos c10] at H
   have c10b0 : decide (0 < x7_1) = true := decide_eq_true c10
   clear c10
   replace H := Option.bind_eq_some_iff.mp H
   obtain ⟨⟨t145, t146, t147⟩, A110, H⟩ := H
   replace H : ((spec_l00Src_next.f t124 t146 t147 41).bind fun bt148 => ((spec_l00Src_next.f t124 bt148.2.1 bt148.2.2 41).bind fun bt151 => ((spec_l00Src_next.f t124 bt151.2.1 bt151.2.2 200).bind fun bt154 => ((spec_l00Src_next.f t124 bt154.2.1 bt154.2.2 12).bind fun bt157 => (if x6_1.length < 3518437208883 then (spec_StopsOf.l0 k1 (x6_1 ++ [(⟨wrap64 (bt148.1 - 20), wrap64 (bt151.1 - 20), t145, wrap64 ((wrap64 (t145 + 20)) + bt154.1), bt157.1⟩ : S37)]) (wrap64 (x7_1 - 1)) t124 bt157.2.1 bt157.2.2) else (none)))))) = some (r1, r2, r3) := H
   have A11 := za A110
   clear A110
   replace H := Option.bind_eq_some_iff.mp H
   obtain ⟨⟨t148, t149, t150⟩, A120, H⟩ := H
   replace H : ((spec_l00Src_next.f t124 t149 t150 41).bind fun bt151 => ((spec_l00Src_next.f t124 bt151.2.1 bt151.2.2 200).bind fun bt154 => ((spec_l00Src_next.f t124 bt154.2.1 bt154.2.2 12).bind fun bt157 => (if x6_1.length < 3518437208883 then (spec_StopsOf.l0 k1 (x6_1 ++ [(⟨wrap64 (t148 - 20), wrap64 (bt151.1 - 20), t145, wrap64 ((wrap64 (t145 + 20)) + bt154.1), bt157.1⟩ : S37)]) (wrap64 (x7_1 - 1)) t124 bt157.2.1 bt157.2.2) else (none))))) = some (r1, r2, r3) := H
   have A12 := za A120
   clear A120
   replace H := Option.bind_eq_some_iff.mp H
   obtain ⟨⟨t151, t152, t153⟩, A130, H⟩ := H
   replace H : ((spec_l00Src_next.f t124 t152 t153 200).bind fun bt154 => ((spec_l00Src_next.f t124 bt154.2.1 bt154.2.2 12).bind fun bt157 => (if x6_1.length < 3518437208883 then (spec_StopsOf.l0 k1 (x6_1 ++ [(⟨wrap64 (t148 - 20), wrap64 (t151 - 20), t145, wrap64 ((wrap64 (t145 + 20)) + bt154.1), bt157.1⟩ : S37)]) (wrap64 (x7_1 - 1)) t124 bt157.2.1 bt157.2.2) else (none)))) = some (r1, r2, r3) := H
   have A13 := za A130
   clear A130
   replace H := Option.bind_eq_some_iff.mp H
   obtain ⟨⟨t154, t155, t156⟩, A140, H⟩ := H
   replace H : ((spec_l00Src_next.f t124 t155 t156 12).bind fun bt157 => (if x6_1.length < 3518437208883 then (spec_StopsOf.l0 k1 (x6_1 ++ [(⟨wrap64 (t148 - 20), wrap64 (t151 - 20), t145, wrap64 ((wrap64 (t145 + 20)) + t154), bt157.1⟩ : S37)]) (wrap64 (x7_1 - 1)) t124 bt157.2.1 bt157.2.2) else (none))) = some (r1, r2, r3) := H
   have A14 := za A140
   clear A140
   replace H := Option.bind_eq_some_iff.mp H
   obtain ⟨⟨t157, t158, t159⟩, A150, H⟩ := H
   replace H : (if x6_1.length < 3518437208883 then (spec_StopsOf.l0 k1 (x6_1 ++ [(⟨wrap64 (t148 - 20), wrap64 (t151 - 20), t145, wrap64 ((wrap64 (t145 + 20)) + t154), t157⟩ : S37)]) (wrap64 (x7_1 - 1)) t124 t158 t159) else (none)) = some (r1, r2, r3) := H
   have A15 := za A150
   clear A150
   by_cases c16 : x6_1.length < 3518437208883
   rotate_left
   ·rw [if_neg c16] at H
    exact absurd H (by simp)
   rw [if_pos c16] at H
   have LMc16 := za c16
   clear c16
   obtain ⟨y160, hy160⟩ : ∃ y_ : List (S37), y_ = (x6_1 ++ [(⟨wrap64 (t148 - 20), wrap64 (t151 - 20), t145, wrap64 ((wrap64 (t145 + 20)) + t154), t157⟩ : S37)]) := ⟨_, rfl⟩
   replace H : (spec_StopsOf.l0 k1 y160 (wrap64 (x7_1 - 1)) t124 t158 t159) = some (r1, r2, r3) := by first | (rw [hy160]; with_reducible exact H) | (have H2_ := (Option.bind_some _ _).symm.trans H; rw [hy160]; with_reducible exact H2_) | (have H2_ := (Option.bind_some _ _).symm.trans H; with_reducible exact H2_) | with_reducible exact H | (rw [hy160]; exact H) | exact H
   have Ny160 := za hy160
   clear hy160
   have H' := za H
   clear H
   go_wp2_with (first | ((with_reducible refine gate_callee (f := 56) rfl ?_); refine goesL_ (some 22) rfl rfl Try.func56 zG125 rfl #[.pointer (some ⟨g127, 0, none⟩), .int .i64 60] rfl zG87 ?_; (with_reducible refine (spec_l00Src_next.calls g127 t124 x128001_1 x128002_1 60 t145 t146 t147 w _ ?side1 ?side2 A11.out).mono ?_); (case side1 => exact zH46); (case side2 => exact zH65); rintro e w17 ⟨rfl, hi, hb, hk⟩; refine ⟨_, rfl, ?_⟩; have n_ := zA_ (za (zo (zbe (IsS168.apart (show IsS168 w _ g127 t124 x128001_1 x128002_1 from by repeat (first | (with_reducible first | exact HI127.out | apply IsS168.alloc | apply IsS168.drewN | apply IsS168.drew | apply IsS168.set_1 | apply IsS168.set_2) | exact HI127.out)) zK219 zG126) hk (fun _ h => h.2)) (fun _ h => h.1))) (zA_ (za (hb)) (za (hi))); clear HO_6 HB HI127; obtain ⟨HO_6, HB, HI127⟩ := n_; (try clear hb); (try clear hk); (try clear hi)) | ((with_reducible refine gate_callee (f := 56) rfl ?_); refine goesL_ (some 25) rfl rfl Try.func56 zG125 rfl #[.pointer (some ⟨g127, 0, none⟩), .int .i64 41] rfl zG87 ?_; (with_reducible refine (spec_l00Src_next.calls g127 t124 t146 t147 41 t148 t149 t150 w _ ?side1 ?side2 A12.out).mono ?_); (case side1 => exact zH46); (case side2 => exact zH65); rintro e w18 ⟨rfl, hi, hb, hk⟩; refine ⟨_, rfl, ?_⟩; have n_ := zA_ (za (zo (zbe (IsS168.apart (show IsS168 w _ g127 t124 t146 t147 from by repeat (first | (with_reducible first | exact HI127.out | apply IsS168.alloc | apply IsS168.drewN | apply IsS168.drew | apply IsS168.set_1 | apply IsS168.set_2) | exact HI127.out)) zK219 zG126) hk (fun _ h => h.2)) (fun _ h => h.1))) (zA_ (za (hb)) (za (hi))); clear HO_6 HB HI127; obtain ⟨HO_6, HB, HI127⟩ := n_; (try clear hb); (try clear hk); (try clear hi)) | ((with_reducible refine gate_callee (f := 56) rfl ?_); refine goesL_ (some 28) rfl rfl Try.func56 zG125 rfl #[.pointer (some ⟨g127, 0, none⟩), .int .i64 41] rfl zG87 ?_; (with_reducible refine (spec_l00Src_next.calls g127 t124 t149 t150 41 t151 t152 t153 w _ ?side1 ?side2 A13.out).mono ?_); (case side1 => exact zH46); (case side2 => exact zH65); rintro e w19 ⟨rfl, hi, hb, hk⟩; refine ⟨_, rfl, ?_⟩; have n_ := zA_ (za (zo (zbe (IsS168.apart (show IsS168 w _ g127 t124 t149 t150 from by repeat (first | (with_reducible first | exact HI127.out | apply IsS168.alloc | apply IsS168.drewN | apply IsS168.drew | apply IsS168.set_1 | apply IsS168.set_2) | exact HI127.out)) zK219 zG126) hk (fun _ h => h.2)) (fun _ h => h.1))) (zA_ (za (hb)) (za (hi))); clear HO_6 HB HI127; obtain ⟨HO_6, HB, HI127⟩ := n_; (try clear hb); (try clear hk); (try clear hi)) | ((with_reducible refine gate_callee (f := 56) rfl ?_); refine goesL_ (some 34) rfl rfl Try.func56 zG125 rfl #[.pointer (some ⟨g127, 0, none⟩), .int .i64 200] rfl zG87 ?_; (with_reducible refine (spec_l00Src_next.calls g127 t124 t152 t153 200 t154 t155 t156 w _ ?side1 ?side2 A14.out).mono ?_); (case side1 => exact zH46); (case side2 => exact zH65); rintro e w20 ⟨rfl, hi, hb, hk⟩; refine ⟨_, rfl, ?_⟩; have n_ := zA_ (za (zo (zbe (IsS168.apart (show IsS168 w _ g127 t124 t152 t153 from by repeat (first | (with_reducible first | exact HI127.out | apply IsS168.alloc | apply IsS168.drewN | apply IsS168.drew | apply IsS168.set_1 | apply IsS168.set_2) | exact HI127.out)) zK219 zG126) hk (fun _ h => h.2)) (fun _ h => h.1))) (zA_ (za (hb)) (za (hi))); clear HO_6 HB HI127; obtain ⟨HO_6, HB, HI127⟩ := n_; (try clear hb); (try clear hk); (try clear hi)) | ((with_reducible refine gate_callee (f := 56) rfl ?_); refine goesL_ (some 37) rfl rfl Try.func56 zG125 rfl #[.pointer (some ⟨g127, 0, none⟩), .int .i64 12] rfl zG87 ?_; (with_reducible refine (spec_l00Src_next.calls g127 t124 t155 t156 12 t157 t158 t159 w _ ?side1 ?side2 A15.out).mono ?_); (case side1 => exact zH46); (case side2 => exact zH65); rintro e w21 ⟨rfl, hi, hb, hk⟩; refine ⟨_, rfl, ?_⟩; have n_ := zA_ (za (zo (zbe (IsS168.apart (show IsS168 w _ g127 t124 t155 t156 from by repeat (first | (with_reducible first | exact HI127.out | apply IsS168.alloc | apply IsS168.drewN | apply IsS168.drew | apply IsS168.set_1 | apply IsS168.set_2) | exact HI127.out)) zK219 zG126) hk (fun _ h => h.2)) (fun _ h => h.1))) (zA_ (za (hb)) (za (hi))); clear HO_6 HB HI127; obtain ⟨HO_6, HB, HI127⟩ := n_; (try clear hb); (try clear hk); (try clear hi)) | ((with_reducible refine gate_builtin (b := .append) (xs := #[.tmp 23, .tmp 39]) rfl ?_); at_builtin; refine zaz k37 (w0 := w) w.heap.size rfl (.tmp 23) (.tmp 39) 23 37 (.agg #[(.int .i64 0), (.int .i64 0), (.int .i64 0), (.int .i64 0), (.int .i64 0)]) 40 rfl Try.underlying23 info37 rfl zG126 (by omega) u6 x6_1 (⟨wrap64 (t148 - 20), wrap64 (t151 - 20), t145, wrap64 ((wrap64 (t145 + 20)) + t154), t157⟩ : S37) [.int .i64 (wrap64 (t148 - 20)), .int .i64 (wrap64 (t151 - 20)), .int .i64 t145, .int .i64 (wrap64 ((wrap64 (t145 + 20)) + t154)), .int .i64 t157] (fun _ => True) (fun _ => False) rfl rfl ?aP (fun _ hk => hk.elim) ?aF ?aO ?aB ?aS ?aL ?_; (case aP => exact k37_mkM _ _ _ (⟨wrap64 (t148 - 20), wrap64 (t151 - 20), t145, wrap64 ((wrap64 (t145 + 20)) + t154), t157⟩ : S37)); (case aB => exact zK171); (case aF => exact (fun _ _ => trivial)); (case aO => exact zK219); (case aS => exact (zt zK171)); (case aL => have := LMc16.out; omega); intro v161 w22 ho hb hg hat; rw [← Ny160.out] at ho; have n_ := zA_ (za (IsS168.grown (show IsS168 w _ g127 t124 t158 t159 from by repeat (first | (with_reducible first | exact HI127.out | apply IsS168.alloc | apply IsS168.drewN | apply IsS168.drew | apply IsS168.set_1 | apply IsS168.set_2) | exact HI127.out)) hg (IsS168.own_ne HI127.out HO_6.out zG126))) (zA_ (za (hb)) (za (ho))); clear HI127 HB HO_6; obtain ⟨HI127, HB, HO162⟩ := n_; clear ho hb hg hat))
   go_roundg k1
   case measure => have := HK1.out; omega
   case rel => exact ⟨(y160), (wrap64 (x7_1 - 1)), (t158), (t159), zG124, H', ⟨zH106⟩, ⟨by (with_reducible repeat (first | apply zf | apply zg | apply zh)); exact HO162.out⟩, ⟨zH42⟩, ⟨zH62⟩⟩
/-! ### impl_within: function 88 -/
def impl_within.f (a0 : Int) (a1 : Int) (a2 : Int) : Option (Bool) := if a0 ≥ a1 then (some (decide (a0 ≤ a2))) else (some false)
set_option maxHeartbeats 64000000 in
set_option maxRecDepth 100000 in
theorem impl_within.calls (a0 : Int) (a1 : Int) (a2 : Int) (r : Bool) (w : World) (h : impl_within.f a0 a1 a2 = some r) :
  Calls Try.prog 88 #[.int .i64 a0, .int .i64 a1, .int .i64 a2] w fun e w' => e = .returned (.bool r) ∧ Drawn0 w w' := by
 have H : (if a0 ≥ a1 then (some (decide (a0 ≤ a2))) else (some false)) = some r := h
 clear h
 by_cases c4 : a0 ≥ a1
 ·rw [if_pos c4] at H
  have c4b0 : decide (a1 ≤ a0) = true := decide_eq_true c4
  clear c4
  obtain rfl := Option.some.inj H
  go_enter Try.func88, Try.ntmps88
  go_wp2
  go_ret
  exact zH74
 rw [if_neg c4] at H
 have c4b0 : decide (a1 ≤ a0) = false := decide_eq_false c4
 clear c4
 obtain rfl := Option.some.inj H
 go_enter Try.func88, Try.ntmps88
 go_wp2
 go_ret
 exact zH74

/-! ### impl_isStop: function 67 -/
def impl_isStop.f (a0_0 : Int) (a0_1 : Int) (a0_2 : Int) (a0_3 : Int) (a0_4 : Int) : Option (Bool) := (impl_within.f a0_0 (-1000) 1000).bind fun t164 => (if t164 = true then ((impl_within.f a0_1 (-1000) 1000).bind fun t165 => (if t165 = true then (if a0_2 ≥ 0 then (if a0_2 ≤ a0_3 then (if a0_3 ≤ 100000 then ((impl_within.f a0_4 0 1000).bind fun t166 => (some t166)) else (some false)) else (some false)) else (some false)) else (some false))) else (some false))
set_option maxHeartbeats 64000000 in
set_option maxRecDepth 100000 in
theorem impl_isStop.calls (a0_0 : Int) (a0_1 : Int) (a0_2 : Int) (a0_3 : Int) (a0_4 : Int) (r : Bool) (w : World) (h : impl_isStop.f a0_0 a0_1 a0_2 a0_3 a0_4 = some r) :
  Calls Try.prog 67 #[.agg #[.int .i64 a0_0, .int .i64 a0_1, .int .i64 a0_2, .int .i64 a0_3, .int .i64 a0_4]] w fun e w' => e = .returned (.bool r) ∧ Below w.heap.size w w' := by
 have hu37 := Try.underlying37
 have HB := za (Below.refl w.heap.size w)
 have H : ((impl_within.f a0_0 (-1000) 1000).bind fun t164 => (if t164 = true then ((impl_within.f a0_1 (-1000) 1000).bind fun t165 => (if t165 = true then (if a0_2 ≥ 0 then (if a0_2 ≤ a0_3 then (if a0_3 ≤ 100000 then ((impl_within.f a0_4 0 1000).bind fun t166 => (some t166)) else (some false)) else (some false)) else (some false)) else (some false))) else (some false))) = some r := h
 clear h
 replace H := Option.bind_eq_some_iff.mp H
 obtain ⟨t164, A20, H⟩ := H
 replace H : (if t164 = true then ((impl_within.f a0_1 (-1000) 1000).bind fun t165 => (if t165 = true then (if a0_2 ≥ 0 then (if a0_2 ≤ a0_3 then (if a0_3 ≤ 100000 then ((impl_within.f a0_4 0 1000).bind fun t166 => (some t166)) else (some false)) else (some false)) else (some false)) else (some false))) else (some false)) = some r := H
 have A2 := za A20
 clear A20
 by_cases c3 : t164 = true
 rotate_left
 ·replace c3 := Bool.eq_false_iff.mpr c3
  subst c3
  have H1 : (some false) = some r := by rw [if_neg (show ¬ (false = true) by decide)] at H; exact H
  clear H
  have H := H1
  clear H1
  obtain rfl := Option.some.inj H
  go_enter Try.func67, Try.ntmps67
  go_wp2_with (first | ((with_reducible refine gate_dst (N := 1) rfl ?_); refine box_event ?hg (N := 1) ?hd (cs := #[.int .i64 a0_0, .int .i64 a0_1, .int .i64 a0_2, .int .i64 a0_3, .int .i64 a0_4]) (t := 37) ?hr ?_; (case hd => rfl); (case hg => rfl); (case hr => exact zH103); intro gb163 hg w20 hbox hb; have n_ := zA_ (za (zv zG95 hb)) (zA_ (za (hbox)) (zA_ (zN1 w.heap.size hg (zt zG95)) (zN1 w.heap.size hg (zt zG95)))); clear HB; obtain ⟨HB, BK163, GW163, GE163⟩ := n_; clear hb hbox hg; obtain ⟨hcz21_0, hcz21_1, hcz21_2, hcz21_3, hcz21_4, hfz21_0, hfz21_1, hfz21_2, hfz21_3, hfz21_4⟩ := zB5 BK163.out) | ((with_reducible refine gate_callee (f := 88) rfl ?_); refine goesL_ (some 5) rfl rfl Try.func88 zG125 rfl #[.int .i64 a0_0, .int .i64 (-1000), .int .i64 1000] rfl zG87 ?_; (with_reducible refine (impl_within.calls a0_0 (-1000) 1000 false _ A2.out).mono ?_); rintro e w' ⟨rfl, ⟨nd, rfl⟩⟩; refine ⟨_, rfl, ?_⟩))
  go_ret
  exact zH27

 subst c3
 have H1 : ((impl_within.f a0_1 (-1000) 1000).bind fun t165 => (if t165 = true then (if a0_2 ≥ 0 then (if a0_2 ≤ a0_3 then (if a0_3 ≤ 100000 then ((impl_within.f a0_4 0 1000).bind fun t166 => (some t166)) else (some false)) else (some false)) else (some false)) else (some false))) = some r := by rw [if_pos rfl] at H; exact H
 clear H
 have H := H1
 clear H1
 replace H := Option.bind_eq_some_iff.mp H
 obtain ⟨t165, A40, H⟩ := H
 replace H : (if t165 = true then (if a0_2 ≥ 0 then (if a0_2 ≤ a0_3 then (if a0_3 ≤ 100000 then ((impl_within.f a0_4 0 1000).bind fun t166 => (some t166)) else (some false)) else (some false)) else (some false)) else (some false)) = some r := H
 have A4 := za A40
 clear A40
 by_cases c5 : t165 = true
 rotate_left
 ·replace c5 := Bool.eq_false_iff.mpr c5
  subst c5
  have H1 : (some false) = some r := by rw [if_neg (show ¬ (false = true) by decide)] at H; exact H
  clear H
  have H := H1
  clear H1
  obtain rfl := Option.some.inj H
  go_enter Try.func67, Try.ntmps67
  go_wp2_with (first | ((with_reducible refine gate_dst (N := 1) rfl ?_); refine box_event ?hg (N := 1) ?hd (cs := #[.int .i64 a0_0, .int .i64 a0_1, .int .i64 a0_2, .int .i64 a0_3, .int .i64 a0_4]) (t := 37) ?hr ?_; (case hd => rfl); (case hg => rfl); (case hr => exact zH103); intro gb163 hg w18 hbox hb; have n_ := zA_ (za (zv zG95 hb)) (zA_ (za (hbox)) (zA_ (zN1 w.heap.size hg (zt zG95)) (zN1 w.heap.size hg (zt zG95)))); clear HB; obtain ⟨HB, BK163, GW163, GE163⟩ := n_; clear hb hbox hg; obtain ⟨hcz19_0, hcz19_1, hcz19_2, hcz19_3, hcz19_4, hfz19_0, hfz19_1, hfz19_2, hfz19_3, hfz19_4⟩ := zB5 BK163.out) | ((with_reducible refine gate_callee (f := 88) rfl ?_); refine goesL_ (some 5) rfl rfl Try.func88 zG125 rfl #[.int .i64 a0_0, .int .i64 (-1000), .int .i64 1000] rfl zG87 ?_; (with_reducible refine (impl_within.calls a0_0 (-1000) 1000 true _ A2.out).mono ?_); rintro e w' ⟨rfl, ⟨nd, rfl⟩⟩; refine ⟨_, rfl, ?_⟩) | (go_at_call 88; (with_reducible refine (impl_within.calls a0_1 (-1000) 1000 false _ A4.out).mono ?_); rintro e w' ⟨rfl, ⟨nd, rfl⟩⟩))
  go_ret
  exact zH27
 subst c5
 have H1 : (if a0_2 ≥ 0 then (if a0_2 ≤ a0_3 then (if a0_3 ≤ 100000 then ((impl_within.f a0_4 0 1000).bind fun t166 => (some t166)) else (some false)) else (some false)) else (some false)) = some r := by rw [if_pos rfl] at H; exact H
 clear H
 have H := H1
 clear H1
 by_cases c6 : a0_2 ≥ 0
 rotate_left
 ·rw [if_neg c6] at H
  have c6b0 : decide (0 ≤ a0_2) = false := decide_eq_false c6
  clear c6
  obtain rfl := Option.some.inj H
  go_enter Try.func67, Try.ntmps67
  go_wp2_with (first | ((with_reducible refine gate_dst (N := 1) rfl ?_); refine box_event ?hg (N := 1) ?hd (cs := #[.int .i64 a0_0, .int .i64 a0_1, .int .i64 a0_2, .int .i64 a0_3, .int .i64 a0_4]) (t := 37) ?hr ?_; (case hd => rfl); (case hg => rfl); (case hr => exact zH103); intro gb163 hg w16 hbox hb; have n_ := zA_ (za (zv zG95 hb)) (zA_ (za (hbox)) (zA_ (zN1 w.heap.size hg (zt zG95)) (zN1 w.heap.size hg (zt zG95)))); clear HB; obtain ⟨HB, BK163, GW163, GE163⟩ := n_; clear hb hbox hg; obtain ⟨hcz17_0, hcz17_1, hcz17_2, hcz17_3, hcz17_4, hfz17_0, hfz17_1, hfz17_2, hfz17_3, hfz17_4⟩ := zB5 BK163.out) | ((with_reducible refine gate_callee (f := 88) rfl ?_); refine goesL_ (some 5) rfl rfl Try.func88 zG125 rfl #[.int .i64 a0_0, .int .i64 (-1000), .int .i64 1000] rfl zG87 ?_; (with_reducible refine (impl_within.calls a0_0 (-1000) 1000 true _ A2.out).mono ?_); rintro e w' ⟨rfl, ⟨nd, rfl⟩⟩; refine ⟨_, rfl, ?_⟩) | (go_at_call 88; (with_reducible refine (impl_within.calls a0_1 (-1000) 1000 true _ A4.out).mono ?_); rintro e w' ⟨rfl, ⟨nd, rfl⟩⟩))
  go_ret
  exact zH27
 rw [if_pos c6] at H
 have c6b0 : decide (0 ≤ a0_2) = true := decide_eq_true c6
 clear c6
 by_cases c7 : a0_2 ≤ a0_3
 rotate_left
 ·rw [if_neg c7] at H
  have c7b0 := decide_eq_false c7
  clear c7
  obtain rfl := Option.some.inj H
  go_enter Try.func67, Try.ntmps67
  go_wp2_with (first | ((with_reducible refine gate_dst (N := 1) rfl ?_); refine box_event ?hg (N := 1) ?hd (cs := #[.int .i64 a0_0, .int .i64 a0_1, .int .i64 a0_2, .int .i64 a0_3, .int .i64 a0_4]) (t := 37) ?hr ?_; (case hd => rfl); (case hg => rfl); (case hr => exact zH103); intro gb163 hg w14 hbox hb; have n_ := zA_ (za (zv zG95 hb)) (zA_ (za (hbox)) (zA_ (zN1 w.heap.size hg (zt zG95)) (zN1 w.heap.size hg (zt zG95)))); clear HB; obtain ⟨HB, BK163, GW163, GE163⟩ := n_; clear hb hbox hg; obtain ⟨hcz15_0, hcz15_1, hcz15_2, hcz15_3, hcz15_4, hfz15_0, hfz15_1, hfz15_2, hfz15_3, hfz15_4⟩ := zB5 BK163.out) | ((with_reducible refine gate_callee (f := 88) rfl ?_); refine goesL_ (some 5) rfl rfl Try.func88 zG125 rfl #[.int .i64 a0_0, .int .i64 (-1000), .int .i64 1000] rfl zG87 ?_; (with_reducible refine (impl_within.calls a0_0 (-1000) 1000 true _ A2.out).mono ?_); rintro e w' ⟨rfl, ⟨nd, rfl⟩⟩; refine ⟨_, rfl, ?_⟩) | (go_at_call 88; (with_reducible refine (impl_within.calls a0_1 (-1000) 1000 true _ A4.out).mono ?_); rintro e w' ⟨rfl, ⟨nd, rfl⟩⟩))
  go_ret
  exact zH27
 rw [if_pos c7] at H
 have c7b0 := decide_eq_true c7
 clear c7
 by_cases c8 : a0_3 ≤ 100000
 rotate_left
 ·rw [if_neg c8] at H
  have c8b0 := decide_eq_false c8
  clear c8
  obtain rfl := Option.some.inj H
  go_enter Try.func67, Try.ntmps67
  go_wp2_with (first | ((with_reducible refine gate_dst (N := 1) rfl ?_); refine box_event ?hg (N := 1) ?hd (cs := #[.int .i64 a0_0, .int .i64 a0_1, .int .i64 a0_2, .int .i64 a0_3, .int .i64 a0_4]) (t := 37) ?hr ?_; (case hd => rfl); (case hg => rfl); (case hr => exact zH103); intro gb163 hg w12 hbox hb; have n_ := zA_ (za (zv zG95 hb)) (zA_ (za (hbox)) (zA_ (zN1 w.heap.size hg (zt zG95)) (zN1 w.heap.size hg (zt zG95)))); clear HB; obtain ⟨HB, BK163, GW163, GE163⟩ := n_; clear hb hbox hg; obtain ⟨hcz13_0, hcz13_1, hcz13_2, hcz13_3, hcz13_4, hfz13_0, hfz13_1, hfz13_2, hfz13_3, hfz13_4⟩ := zB5 BK163.out) | ((with_reducible refine gate_callee (f := 88) rfl ?_); refine goesL_ (some 5) rfl rfl Try.func88 zG125 rfl #[.int .i64 a0_0, .int .i64 (-1000), .int .i64 1000] rfl zG87 ?_; (with_reducible refine (impl_within.calls a0_0 (-1000) 1000 true _ A2.out).mono ?_); rintro e w' ⟨rfl, ⟨nd, rfl⟩⟩; refine ⟨_, rfl, ?_⟩) | (go_at_call 88; (with_reducible refine (impl_within.calls a0_1 (-1000) 1000 true _ A4.out).mono ?_); rintro e w' ⟨rfl, ⟨nd, rfl⟩⟩))
  go_ret
  exact zH27
 rw [if_pos c8] at H
 have c8b0 := decide_eq_true c8
 clear c8
 replace H := Option.bind_eq_some_iff.mp H
 obtain ⟨t166, A90, H⟩ := H
 replace H : (some t166) = some r := H
 have A9 := za A90
 clear A90
 obtain rfl := Option.some.inj H
 go_enter Try.func67, Try.ntmps67
 go_wp2_with (first | ((with_reducible refine gate_dst (N := 1) rfl ?_); refine box_event ?hg (N := 1) ?hd (cs := #[.int .i64 a0_0, .int .i64 a0_1, .int .i64 a0_2, .int .i64 a0_3, .int .i64 a0_4]) (t := 37) ?hr ?_; (case hd => rfl); (case hg => rfl); (case hr => exact zH103); intro gb163 hg w10 hbox hb; have n_ := zA_ (za (zv zG95 hb)) (zA_ (za (hbox)) (zA_ (zN1 w.heap.size hg (zt zG95)) (zN1 w.heap.size hg (zt zG95)))); clear HB; obtain ⟨HB, BK163, GW163, GE163⟩ := n_; clear hb hbox hg; obtain ⟨hcz11_0, hcz11_1, hcz11_2, hcz11_3, hcz11_4, hfz11_0, hfz11_1, hfz11_2, hfz11_3, hfz11_4⟩ := zB5 BK163.out) | ((with_reducible refine gate_callee (f := 88) rfl ?_); refine goesL_ (some 5) rfl rfl Try.func88 zG125 rfl #[.int .i64 a0_0, .int .i64 (-1000), .int .i64 1000] rfl zG87 ?_; (with_reducible refine (impl_within.calls a0_0 (-1000) 1000 true _ A2.out).mono ?_); rintro e w' ⟨rfl, ⟨nd, rfl⟩⟩; refine ⟨_, rfl, ?_⟩) | (go_at_call 88; (with_reducible refine (impl_within.calls a0_1 (-1000) 1000 true _ A4.out).mono ?_); rintro e w' ⟨rfl, ⟨nd, rfl⟩⟩) | (go_at_call 88; (with_reducible refine (impl_within.calls a0_4 0 1000 t166 _ A9.out).mono ?_); rintro e w' ⟨rfl, ⟨nd, rfl⟩⟩))
 go_ret
 exact zH27
/-! ### impl_StopsOK_1: function 66 -/
def impl_StopsOK_1.f (a0_0 : Int) (a0_1 : Int) (a0_2 : Int) (a0_3 : Int) (a0_4 : Int) : Option (Bool) := (impl_isStop.f a0_0 a0_1 a0_2 a0_3 a0_4).bind fun t168 => (some (!t168))
set_option maxHeartbeats 64000000 in
set_option maxRecDepth 100000 in
theorem impl_StopsOK_1.calls (a0_0 : Int) (a0_1 : Int) (a0_2 : Int) (a0_3 : Int) (a0_4 : Int) (r : Bool) (w : World) (h : impl_StopsOK_1.f a0_0 a0_1 a0_2 a0_3 a0_4 = some r) :
  Calls Try.prog 66 #[.agg #[.int .i64 a0_0, .int .i64 a0_1, .int .i64 a0_2, .int .i64 a0_3, .int .i64 a0_4]] w fun e w' => e = .returned (.bool r) ∧ Below w.heap.size w w' := by
 have hu37 := Try.underlying37
 have HB := za (Below.refl w.heap.size w)
 have H : ((impl_isStop.f a0_0 a0_1 a0_2 a0_3 a0_4).bind fun t168 => (some (!t168))) = some r := h
 clear h
 replace H := Option.bind_eq_some_iff.mp H
 obtain ⟨t168, A20, H⟩ := H
 replace H : (some (!t168)) = some r := H
 have A2 := za A20
 clear A20
 obtain rfl := Option.some.inj H
 go_enter Try.func66, Try.ntmps66
 go_wp2_with (first | ((with_reducible refine gate_dst (N := 1) rfl ?_); refine box_event ?hg (N := 1) ?hd (cs := #[.int .i64 a0_0, .int .i64 a0_1, .int .i64 a0_2, .int .i64 a0_3, .int .i64 a0_4]) (t := 37) ?hr ?_; (case hd => rfl); (case hg => rfl); (case hr => exact zH103); intro gb167 hg w3 hbox hb; have n_ := zA_ (za (zv zG95 hb)) (zA_ (za (hbox)) (zA_ (zN1 w.heap.size hg (zt zG95)) (zN1 w.heap.size hg (zt zG95)))); clear HB; obtain ⟨HB, BK167, GW167, GE167⟩ := n_; clear hb hbox hg; obtain ⟨hcz4_0, hcz4_1, hcz4_2, hcz4_3, hcz4_4, hfz4_0, hfz4_1, hfz4_2, hfz4_3, hfz4_4⟩ := zB5 BK167.out) | ((with_reducible refine gate_callee (f := 67) rfl ?_); refine goesL_ (some 4) rfl rfl Try.func67 zG125 rfl #[.agg #[.int .i64 a0_0, .int .i64 a0_1, .int .i64 a0_2, .int .i64 a0_3, .int .i64 a0_4]] rfl zG87 ?_; (with_reducible refine (impl_isStop.calls a0_0 a0_1 a0_2 a0_3 a0_4 t168 _ A2.out).mono ?_); rintro e w5 ⟨rfl, hb⟩; refine ⟨_, rfl, ?_⟩; have n_ := zA_ (za (zs (g := gb167) (o := .cells #[.int .i64 a0_0, .int .i64 a0_1, .int .i64 a0_2, .int .i64 a0_3, .int .i64 a0_4] 37 (0, 0)) (by (with_reducible repeat (first | refine zc ?_ _ | refine ze ?_ | refine zb ?_ _)); exact BK167.out) hb)) (za (zv (by repeat (first | (with_reducible first | exact HB.out | apply zm | apply zj | apply zk | refine zi ?_ GE167.out) | exact HB.out)) hb)); clear BK167 HB; obtain ⟨BK167, HB⟩ := n_; (try clear hb)))
 go_ret
 exact ⟨zH92, by repeat (first | (with_reducible first | exact HB.out | apply zm | apply zj | apply zk | refine zi ?_ GE167.out) | exact HB.out)⟩

/-! ### slices_IndexFunc_at_impl_StopsOK_1: function 500001 -/
def slices_IndexFunc_at_impl_StopsOK_1.l0 : Nat → List (S37) → Int → Int → Option (Int)
 | 0, _, _, _ => none
 | k + 1, x0, x7, x8 => if x8 < x7 then (if 0 ≤ x8 then (if x8 < (x0.length : Int) then ((impl_StopsOK_1.f ((rd_T37 x0 x8).f0) ((rd_T37 x0 x8).f1) ((rd_T37 x0 x8).f2) ((rd_T37 x0 x8).f3) ((rd_T37 x0 x8).f4)).bind fun t170 => (if t170 = true then (some x8) else (slices_IndexFunc_at_impl_StopsOK_1.l0 k x0 x7 (wrap64 (x8 + 1))))) else (none)) else (none)) else (some (-1))
def slices_IndexFunc_at_impl_StopsOK_1.f (k : Nat) (l0 : List (S37))  : Option (Int) := slices_IndexFunc_at_impl_StopsOK_1.l0 k l0 (l0.length : Int) 0
theorem slices_IndexFunc_at_impl_StopsOK_1.mono_l : ∀ k, (∀ y0 y1 y2, LeO (slices_IndexFunc_at_impl_StopsOK_1.l0 k y0 y1 y2) (slices_IndexFunc_at_impl_StopsOK_1.l0 (k + 1) y0 y1 y2))
 | 0 => fun _ _ _ r h => by simp [slices_IndexFunc_at_impl_StopsOK_1.l0] at h
 | k + 1 => by
  have ih0 := slices_IndexFunc_at_impl_StopsOK_1.mono_l k
  ·intro y0 y1 y2
   unfold slices_IndexFunc_at_impl_StopsOK_1.l0
   repeat' first
   | (with_reducible exact ih0 _ _ _)
   | (with_reducible exact LeO.refl _)
   | (with_reducible exact LeO.none _)
   | (with_reducible refine LeO.ite ?_ ?_)
   | (with_reducible refine LeO.bind ?_ (fun _ => ?_))
   | exact ih0 _ _ _
   | exact LeO.none _
   | refine LeO.ite ?_ ?_
   | refine LeO.bind ?_ (fun _ => ?_)
theorem slices_IndexFunc_at_impl_StopsOK_1.mono : ∀ a0 k, LeO (slices_IndexFunc_at_impl_StopsOK_1.f k a0) (slices_IndexFunc_at_impl_StopsOK_1.f (k + 1) a0) := by
 intro a0 k
 have ih0 := slices_IndexFunc_at_impl_StopsOK_1.mono_l k
 unfold slices_IndexFunc_at_impl_StopsOK_1.f
 repeat' first
   | (with_reducible exact ih0 _ _ _)
   | (with_reducible exact LeO.refl _)
   | (with_reducible exact LeO.none _)
   | (with_reducible refine LeO.ite ?_ ?_)
   | (with_reducible refine LeO.bind ?_ (fun _ => ?_))
   | exact ih0 _ _ _
   | exact LeO.none _
   | refine LeO.ite ?_ ?_
   | refine LeO.bind ?_ (fun _ => ?_)
set_option maxHeartbeats 64000000 in
set_option maxRecDepth 100000 in
theorem slices_IndexFunc_at_impl_StopsOK_1.calls (k : Nat) (A0 : Option Addr) (c0 : Nat) (l0 : List (S37))  (r : Int) (w : World) (hr0 : Kd.C k37 w A0 l0.length l0) (hc0 : l0.length ≤ c0) (h : slices_IndexFunc_at_impl_StopsOK_1.f k l0 = some r) :
  Calls Try.prog 120 #[.slice A0 l0.length c0, .func (.func 66) #[] #[]] w fun e w' => e = .returned (.int .i64 r) ∧ Below w.heap.size w w' := by
 have hu37 := Try.underlying37
 obtain ⟨HR0, HC0, HB⟩ := zD3 hr0 hc0 (Below.refl w.heap.size w)
 clear hr0 hc0
 have H : (slices_IndexFunc_at_impl_StopsOK_1.l0 k l0 (l0.length : Int) 0) = some r := h
 clear h
 have H' := za H
 clear H
 go_enter Try.func120, Try.ntmps120
 go_wp2
 go_loopg [8] k (fun kq v8 w' => ∃ (x8_1 : Int), v8 = .int .i64 x8_1 ∧ Aside0 (slices_IndexFunc_at_impl_StopsOK_1.l0 kq l0 (l0.length : Int) x8_1 = some r) ∧ Aside0 (kq ≤ k) ∧ Aside0 (Below w.heap.size w w'))
 case atStart => exact ⟨(0), zG124, H', ⟨Nat.le_refl _⟩, ⟨zH83⟩⟩
 case round =>
  clear H'
  obtain ⟨x8_1, rfl, HA, HK1, HB⟩ := hrel
  cases gk with
  | zero => exact absurd HA.out (by simp [slices_IndexFunc_at_impl_StopsOK_1.l0])
  | succ k1 =>
   have H := HA.out
   clear HA
   simp only [slices_IndexFunc_at_impl_StopsOK_1.l0] at H
   by_cases c3 : x8_1 < (l0.length : Int)
   rotate_left
   ·rw [if_neg c3] at H
    have c3b0 := decide_eq_false c3
    clear c3
    obtain rfl := Option.some.inj H
    go_wp2
    go_ret
    exact zH36

   rw [if_pos c3] at H
   have c3b0 := decide_eq_true c3
   clear c3
   by_cases c4 : 0 ≤ x8_1
   rotate_left
   ·rw [if_neg c4] at H
    exact absurd H (by simp)
   rw [if_pos c4] at H
   have c4b0 := decide_eq_true c4
   clear c4
   by_cases c5 : x8_1 < (l0.length : Int)
   rotate_left
   ·rw [if_neg c5] at H
    exact absurd H (by simp)
   rw [if_pos c5] at H
   have c5b0 := decide_eq_true c5
   clear c5
   replace H := Option.bind_eq_some_iff.mp H
   obtain ⟨t170, A60, H⟩ := H
   replace H : (if t170 = true then (some x8_1) else (slices_IndexFunc_at_impl_StopsOK_1.l0 k1 l0 (l0.length : Int) (wrap64 (x8_1 + 1)))) = some r := H
   have A6 := za A60
   clear A60
   by_cases c7 : t170 = true
   ·subst c7
    have H1 : (some x8_1) = some r := by rw [if_pos rfl] at H; exact H
    clear H
    have H := H1
    clear H1
    obtain rfl := Option.some.inj H
    have p169 : 0 ≤ (x8_1 : Int) := zO
    have q169 : x8_1 < (l0.length : Int) := zO
    obtain ⟨ad169, e169, hx169_0, hx169_1, hx169_2, hx169_3, hx169_4⟩ := at_T37 HR0.out x8_1 p169 q169
    cases e169
    replace hx169_0 := (HB.out.cell (zx w _ hx169_0)).trans hx169_0
    replace hx169_1 := (HB.out.cell (zx w _ hx169_1)).trans hx169_1
    replace hx169_2 := (HB.out.cell (zx w _ hx169_2)).trans hx169_2
    replace hx169_3 := (HB.out.cell (zx w _ hx169_3)).trans hx169_3
    replace hx169_4 := (HB.out.cell (zx w _ hx169_4)).trans hx169_4
    replace p169 := eq_true p169
    replace q169 := eq_true q169
    go_wp2_with (first | (go_at_call 66; (with_reducible refine (impl_StopsOK_1.calls ((rd_T37 l0 x8_1).f0) ((rd_T37 l0 x8_1).f1) ((rd_T37 l0 x8_1).f2) ((rd_T37 l0 x8_1).f3) ((rd_T37 l0 x8_1).f4) true _ A6.out).mono ?_); rintro e w8 ⟨rfl, hb⟩; replace HB := za (zv zG95 hb); (try clear hb)))
    go_ret
    exact zH36
   replace c7 := Bool.eq_false_iff.mpr c7
   subst c7
   have H1 : (slices_IndexFunc_at_impl_StopsOK_1.l0 k1 l0 (l0.length : Int) (wrap64 (x8_1 + 1))) = some r := by rw [if_neg (show ¬ (false = true) by decide)] at H; exact H
   clear H
   have H := H1
   clear H1
   have H' := za H
   clear H
   have p169 : 0 ≤ (x8_1 : Int) := zO
   have q169 : x8_1 < (l0.length : Int) := zO
   obtain ⟨ad169, e169, hx169_0, hx169_1, hx169_2, hx169_3, hx169_4⟩ := at_T37 HR0.out x8_1 p169 q169
   cases e169
   replace hx169_0 := (HB.out.cell (zx w _ hx169_0)).trans hx169_0
   replace hx169_1 := (HB.out.cell (zx w _ hx169_1)).trans hx169_1
   replace hx169_2 := (HB.out.cell (zx w _ hx169_2)).trans hx169_2
   replace hx169_3 := (HB.out.cell (zx w _ hx169_3)).trans hx169_3
   replace hx169_4 := (HB.out.cell (zx w _ hx169_4)).trans hx169_4
   replace p169 := eq_true p169
   replace q169 := eq_true q169
   go_wp2_with (first | (go_at_call 66; (with_reducible refine (impl_StopsOK_1.calls ((rd_T37 l0 x8_1).f0) ((rd_T37 l0 x8_1).f1) ((rd_T37 l0 x8_1).f2) ((rd_T37 l0 x8_1).f3) ((rd_T37 l0 x8_1).f4) false _ A6.out).mono ?_); rintro e w9 ⟨rfl, hb⟩; replace HB := za (zv zG95 hb); (try clear hb)))
   go_roundg k1
   case measure => have := HK1.out; omega
   case rel => exact ⟨(wrap64 (x8_1 + 1)), zG124, H', ⟨zH106⟩, ⟨zH83⟩⟩
end Go.Proofs.Ytojncbpeeboooaa.Q
