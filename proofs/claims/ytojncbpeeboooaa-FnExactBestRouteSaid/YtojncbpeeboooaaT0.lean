-- squeezed
-- made by pp.py (wip/tools) out of the translation; Lean checks it
import Derived.Test.YtojncbpeeboooaaProg
import Derived.Below
import Derived.Deep.Draws
import Derived.Deep.AppendLies
import Derived.Maps.AppendAt
import Derived.OwnWalk
import Derived.Laws.BytesArg
import Derived.Laws.MakeOwn
import Derived.Laws.OwnMore
import Derived.Deep.OwnRows
import Derived.Tactics
import Derived.Lib.ConvBytes
import Derived.Laws.Slices
import Derived.WalkKit
import Derived.KernelRfl
import Derived.RowKit3
import Derived.Deep.LoopGhost
import Derived.Deep.QuietTactic
import Derived.BigQuiet
import Derived.WideLaws
import Derived.Deep.DeepCutAuto
import Derived.Deep.CutBlock
import Derived.Deep.RegionHeld3
import Derived.Laws.Rows
import Derived.Lib.AppendStr
import Derived.ArgAppend
import Derived.Laws.IdiomCopy
import Derived.OrdersHeld
import Derived.Laws.BitsLemmas
import Derived.RowKit
import Derived.Test.YtojncbpeeboooaaFloat
import Derived.Test.YtojncbpeeboooaaWWords
import Derived.Test.YtojncbpeeboooaaWLast
import Derived.Test.YtojncbpeeboooaaWTab
import Derived.Test.YtojncbpeeboooaaWFour
import Derived.Test.YtojncbpeeboooaaWQPut
import Derived.Test.YtojncbpeeboooaaWApart
import Derived.Test.YtojncbpeeboooaaWArr
import Derived.Test.YtojncbpeeboooaaWZeros
import Derived.Test.YtojncbpeeboooaaWFoot
import Derived.Test.YtojncbpeeboooaaWKept
import Derived.Test.YtojncbpeeboooaaWShare
import Derived.Test.YtojncbpeeboooaaWN
import Derived.Test.YtojncbpeeboooaaWFootNe
import Derived.Test.YtojncbpeeboooaaWAt
import Derived.Test.YtojncbpeeboooaaWEqStruct
import Derived.Test.YtojncbpeeboooaaWRepsOne
import Derived.Test.YtojncbpeeboooaaWInv
import Derived.Test.YtojncbpeeboooaaWInvWords
import Derived.Test.YtojncbpeeboooaaWGuard
import Derived.Test.YtojncbpeeboooaaWNEv
import Derived.Test.YtojncbpeeboooaaWMore
namespace Go.Proofs.Ytojncbpeeboooaa.T
open Go.RowKit Go.Proofs.YtojncbpeeboooaaW.PrintWords Go.Proofs.YtojncbpeeboooaaW.PrintLast Go.Proofs.YtojncbpeeboooaaW.PrintMore
attribute [local go_sem] max2_int min2_int max_two min_two max_three min_three max_four min_four   -- for this text's walks alone
set_option linter.unusedVariables false
set_option linter.unusedSimpArgs false



abbrev q0a := @Kd.heap_int
abbrev q0b := @Kd.heap_pair
def errW : Option Int → Value
 | none => .nilIface
 | some c => .iface 0 (.int .i64 c)
theorem errW_none : errW none = .nilIface := rfl
theorem errW_some (c : Int) : errW (some c) = .iface 0 (.int .i64 c) := rfl

theorem info3 : (Try.prog.info? 3).map (fun i => (i.zero, i.size, i.bytes)) = some (some (.int .i64 0), 1, 8) := by kernel_rfl
theorem info37 : (Try.prog.info? 37).map (fun i => (i.zero, i.size, i.bytes)) = some (some (.agg #[(.int .i64 0), (.int .i64 0), (.int .i64 0), (.int .i64 0), (.int .i64 0)]), 5, 40) := by kernel_rfl
-- the values' own types
/-! #### struct type 37 -/
structure S37 where
 f0 : Int
 f1 : Int
 f2 : Int
 f3 : Int
 f4 : Int
def z37 : S37 := ⟨(0 : Int), (0 : Int), (0 : Int), (0 : Int), (0 : Int)⟩
def k37 : Kd S37 := Kd.iso (Kd.pair (Kd.int .i64) (Kd.pair (Kd.int .i64) (Kd.pair (Kd.int .i64) (Kd.pair (Kd.int .i64) (Kd.int .i64))))) (fun x : S37 => (x.f0, x.f1, x.f2, x.f3, x.f4))
theorem k37_heap : Kd.Heap k37 := Kd.heap_iso _ (q0b (q0a .i64) (q0b (q0a .i64) (q0b (q0a .i64) (q0b (q0a .i64) (q0a .i64)))))
theorem k37_open {w : World} {x : S37} {cs : List Value} (h : k37.K w x cs) : cs = [.int .i64 x.f0, .int .i64 x.f1, .int .i64 x.f2, .int .i64 x.f3, .int .i64 x.f4] := by
 obtain ⟨_, _, rfl, rfl, ⟨_, _, rfl, rfl, ⟨_, _, rfl, rfl, ⟨_, _, rfl, rfl, rfl⟩⟩⟩⟩ := h
 exact rfl
theorem k37_openM {w : World} {base : Nat} {ok : Nat → Prop} {x : S37} {cs : List Value} (h : k37.M w base ok x cs) : cs = [.int .i64 x.f0, .int .i64 x.f1, .int .i64 x.f2, .int .i64 x.f3, .int .i64 x.f4] := by
 obtain ⟨_, _, rfl, rfl, ⟨_, _, rfl, rfl, ⟨_, _, rfl, rfl, ⟨_, _, rfl, rfl, rfl⟩⟩⟩⟩ := h
 exact rfl
theorem k37_mk (w : World) (x : S37)  : k37.K w x [.int .i64 x.f0, .int .i64 x.f1, .int .i64 x.f2, .int .i64 x.f3, .int .i64 x.f4] := ⟨[.int .i64 x.f0], [.int .i64 x.f1, .int .i64 x.f2, .int .i64 x.f3, .int .i64 x.f4], rfl, rfl, ⟨[.int .i64 x.f1], [.int .i64 x.f2, .int .i64 x.f3, .int .i64 x.f4], rfl, rfl, ⟨[.int .i64 x.f2], [.int .i64 x.f3, .int .i64 x.f4], rfl, rfl, ⟨[.int .i64 x.f3], [.int .i64 x.f4], rfl, rfl, rfl⟩⟩⟩⟩
theorem k37_mkM (w : World) (base : Nat) (ok : Nat → Prop) (x : S37)  : k37.M w base ok x [.int .i64 x.f0, .int .i64 x.f1, .int .i64 x.f2, .int .i64 x.f3, .int .i64 x.f4] := ⟨[.int .i64 x.f0], [.int .i64 x.f1, .int .i64 x.f2, .int .i64 x.f3, .int .i64 x.f4], rfl, rfl, ⟨[.int .i64 x.f1], [.int .i64 x.f2, .int .i64 x.f3, .int .i64 x.f4], rfl, rfl, ⟨[.int .i64 x.f2], [.int .i64 x.f3, .int .i64 x.f4], rfl, rfl, ⟨[.int .i64 x.f3], [.int .i64 x.f4], rfl, rfl, rfl⟩⟩⟩⟩
def rd_T37 (xs : List S37) (i : Int) : S37 := xs.getD i.toNat z37
theorem at_T37 {w : World} {A : Option Addr} {n : Nat} {xs : List S37} (h : Kd.C k37 w A n xs) (i : Int) (h0 : 0 ≤ i) (h1 : i < n) : ∃ ad , A = some ad ∧ w.cell? (ad.add (i.toNat * 5)) = some (.int .i64 (rd_T37 xs i).f0) ∧ w.cell? ⟨(ad.add (i.toNat * 5)).block, (ad.add (i.toNat * 5)).off + 1, none⟩ = some (.int .i64 (rd_T37 xs i).f1) ∧ w.cell? ⟨(ad.add (i.toNat * 5)).block, (ad.add (i.toNat * 5)).off + 2, none⟩ = some (.int .i64 (rd_T37 xs i).f2) ∧ w.cell? ⟨(ad.add (i.toNat * 5)).block, (ad.add (i.toNat * 5)).off + 3, none⟩ = some (.int .i64 (rd_T37 xs i).f3) ∧ w.cell? ⟨(ad.add (i.toNat * 5)).block, (ad.add (i.toNat * 5)).off + 4, none⟩ = some (.int .i64 (rd_T37 xs i).f4) := by
 obtain ⟨ad, c, e, _, hK, hc0⟩ := Kd.C_get h z37 i h0 h1
 have hc : ∀ j u, c[j]? = some u → w.cell? (ad.add (i.toNat * 5 + j)) = some u := hc0
 obtain rfl := k37_open hK
 exact ⟨ad, e, hc 0 _ rfl, by rw [← add_field _ _ 1 (by omega)]; exact hc 1 _ rfl, by rw [← add_field _ _ 2 (by omega)]; exact hc 2 _ rfl, by rw [← add_field _ _ 3 (by omega)]; exact hc 3 _ rfl, by rw [← add_field _ _ 4 (by omega)]; exact hc 4 _ rfl⟩

/-! #### struct type 116 -/
structure S116 where
 f0 : Int
 f1 : Int
 f2 : Int
 f3 : Int
 f4 : Int
def z116 : S116 := ⟨(0 : Int), (0 : Int), (0 : Int), (0 : Int), (0 : Int)⟩
def k116 : Kd S116 := Kd.iso (Kd.pair (Kd.int .i64) (Kd.pair (Kd.int .i64) (Kd.pair (Kd.int .i64) (Kd.pair (Kd.int .i64) (Kd.int .i64))))) (fun x : S116 => (x.f0, x.f1, x.f2, x.f3, x.f4))
theorem k116_heap : Kd.Heap k116 := Kd.heap_iso _ (q0b (q0a .i64) (q0b (q0a .i64) (q0b (q0a .i64) (q0b (q0a .i64) (q0a .i64)))))
theorem k116_open {w : World} {x : S116} {cs : List Value} (h : k116.K w x cs) : cs = [.int .i64 x.f0, .int .i64 x.f1, .int .i64 x.f2, .int .i64 x.f3, .int .i64 x.f4] := by
 obtain ⟨_, _, rfl, rfl, ⟨_, _, rfl, rfl, ⟨_, _, rfl, rfl, ⟨_, _, rfl, rfl, rfl⟩⟩⟩⟩ := h
 exact rfl
theorem k116_openM {w : World} {base : Nat} {ok : Nat → Prop} {x : S116} {cs : List Value} (h : k116.M w base ok x cs) : cs = [.int .i64 x.f0, .int .i64 x.f1, .int .i64 x.f2, .int .i64 x.f3, .int .i64 x.f4] := by
 obtain ⟨_, _, rfl, rfl, ⟨_, _, rfl, rfl, ⟨_, _, rfl, rfl, ⟨_, _, rfl, rfl, rfl⟩⟩⟩⟩ := h
 exact rfl
theorem k116_mk (w : World) (x : S116)  : k116.K w x [.int .i64 x.f0, .int .i64 x.f1, .int .i64 x.f2, .int .i64 x.f3, .int .i64 x.f4] := ⟨[.int .i64 x.f0], [.int .i64 x.f1, .int .i64 x.f2, .int .i64 x.f3, .int .i64 x.f4], rfl, rfl, ⟨[.int .i64 x.f1], [.int .i64 x.f2, .int .i64 x.f3, .int .i64 x.f4], rfl, rfl, ⟨[.int .i64 x.f2], [.int .i64 x.f3, .int .i64 x.f4], rfl, rfl, ⟨[.int .i64 x.f3], [.int .i64 x.f4], rfl, rfl, rfl⟩⟩⟩⟩
theorem k116_mkM (w : World) (base : Nat) (ok : Nat → Prop) (x : S116)  : k116.M w base ok x [.int .i64 x.f0, .int .i64 x.f1, .int .i64 x.f2, .int .i64 x.f3, .int .i64 x.f4] := ⟨[.int .i64 x.f0], [.int .i64 x.f1, .int .i64 x.f2, .int .i64 x.f3, .int .i64 x.f4], rfl, rfl, ⟨[.int .i64 x.f1], [.int .i64 x.f2, .int .i64 x.f3, .int .i64 x.f4], rfl, rfl, ⟨[.int .i64 x.f2], [.int .i64 x.f3, .int .i64 x.f4], rfl, rfl, ⟨[.int .i64 x.f3], [.int .i64 x.f4], rfl, rfl, rfl⟩⟩⟩⟩
def rd_T116 (xs : List S116) (i : Int) : S116 := xs.getD i.toNat z116
theorem at_T116 {w : World} {A : Option Addr} {n : Nat} {xs : List S116} (h : Kd.C k116 w A n xs) (i : Int) (h0 : 0 ≤ i) (h1 : i < n) : ∃ ad , A = some ad ∧ w.cell? (ad.add (i.toNat * 5)) = some (.int .i64 (rd_T116 xs i).f0) ∧ w.cell? ⟨(ad.add (i.toNat * 5)).block, (ad.add (i.toNat * 5)).off + 1, none⟩ = some (.int .i64 (rd_T116 xs i).f1) ∧ w.cell? ⟨(ad.add (i.toNat * 5)).block, (ad.add (i.toNat * 5)).off + 2, none⟩ = some (.int .i64 (rd_T116 xs i).f2) ∧ w.cell? ⟨(ad.add (i.toNat * 5)).block, (ad.add (i.toNat * 5)).off + 3, none⟩ = some (.int .i64 (rd_T116 xs i).f3) ∧ w.cell? ⟨(ad.add (i.toNat * 5)).block, (ad.add (i.toNat * 5)).off + 4, none⟩ = some (.int .i64 (rd_T116 xs i).f4) := by
 obtain ⟨ad, c, e, _, hK, hc0⟩ := Kd.C_get h z116 i h0 h1
 have hc : ∀ j u, c[j]? = some u → w.cell? (ad.add (i.toNat * 5 + j)) = some u := hc0
 obtain rfl := k116_open hK
 exact ⟨ad, e, hc 0 _ rfl, by rw [← add_field _ _ 1 (by omega)]; exact hc 1 _ rfl, by rw [← add_field _ _ 2 (by omega)]; exact hc 2 _ rfl, by rw [← add_field _ _ 3 (by omega)]; exact hc 3 _ rfl, by rw [← add_field _ _ 4 (by omega)]; exact hc 4 _ rfl⟩

def rd_L3 (xs : List (List S116)) (i : Int) : (List S116) := xs.getD i.toNat ([] : List S116)
theorem at_L3 {w : World} {A : Option Addr} {n : Nat} {xs : List (List S116)} (h : Kd.C (Kd.slice 116 k116) w A n xs) (i : Int) (h0 : 0 ≤ i) (h1 : i < n) : ∃ ad A0 c0, A = some ad ∧ w.cell? (ad.add i.toNat) = some (.slice A0 (rd_L3 xs i).length c0) ∧ (rd_L3 xs i).length ≤ c0 ∧ k116.C w A0 (rd_L3 xs i).length (rd_L3 xs i) := by
 obtain ⟨ad, c, e, _, hK, hc0⟩ := Kd.C_get h ([] : List S116) i h0 h1
 have hc : ∀ j u, c[j]? = some u → w.cell? (ad.add (i.toNat * 1 + j)) = some u := hc0
 obtain ⟨A0, c0, rfl, l0, g0⟩ := hK
 exact ⟨ad, A0, c0, e, by have hq := hc 0 _ rfl; rwa [Nat.mul_one, Nat.add_zero] at hq, l0, g0⟩

-- aliases
theorem zO {p : Prop} [Decidable p] (h : decide p = true := by first | (with_reducible assumption) | assumption) : p := of_decide_eq_true h
abbrev za := @Aside0.mk
abbrev zb := @blk_alloc
abbrev zc := @blk_drewN
abbrev zd := @blk_drew
abbrev ze := @pw_below_drewN
abbrev zf := @below_set
abbrev zg := @blk_cell
abbrev zh := @blk_frozen
abbrev zi := @below_drew1
abbrev zj := @below_alloc
abbrev zk := @Kd.R_alloc
abbrev zl := @Kd.R_drewN
abbrev zm := @Kd.R_drew
abbrev zn := @Kd.R_far
abbrev zo := @World.block_lt_of_cell?
abbrev zp := @Kd.R_mono
abbrev zq := @below_size
abbrev zr := @blk_below
abbrev zs := @blk_far
abbrev zt := @Kd.R_below
abbrev zu := @below_step
abbrev zv := @Kd.R_types
abbrev zw := @blk_put
abbrev zx := @blk_lt
abbrev zy := @Kd.C_alloc
abbrev zz := @Kd.C_drewN
abbrev zaa := @Kd.R_lt
abbrev zab := @Kd.C_drew
abbrev zac := @Kd.R_base
abbrev zad := @Kd.R_new'
abbrev zae := @Kd.R_told
abbrev zaf := @Kd.R_slice
abbrev zag := @Kd.R_lower
abbrev zah := @Kd.C_kept_now
abbrev zai := @Kd.C_below
abbrev zaj := @Kd.R_ne
abbrev zak := @Kd.R_old
abbrev zal := @Kd.R_newM
abbrev zam := @Kd.R_nil
abbrev zan := @Kd.R_keptB
abbrev zao := @blk_kept
abbrev zap := @blk_grown
abbrev zaq := @Kd.R_tight
abbrev zar := @Kd.R_after
abbrev zas := @Kd.at_int
abbrev zat := @Kd.N_nil
abbrev zau := @Kd.V_nil
abbrev zav := @Kd.Q_nil
abbrev zaw := @Kd.S_nil
abbrev zax := @Kd.R_away
abbrev zay := @Kept.of_grown
abbrev zaz := @Kd.R_elem
abbrev zba := @Kd.R_elder'
abbrev zbb := @Kd.R_reok
abbrev zbc := @Kd.R_newB
abbrev zbd := @Kd.C_kept_came
abbrev zbe := @Kd.C_kept_call
abbrev zbf := @Kd.C_kept_own
abbrev zbg := @Kept.then_
theorem zG59 {p : Prop} (h : p := by first | exact HK.out.1 | exact (show Kept w _ (fun k_ => ((P4_0_ k_ ∨ P4_1_ k_) ∨ k_ = gi3) ∨ k_ = gi4) from by repeat (first | (with_reducible first | exact HK.out | apply Kept.alloc | apply Kept.drewN | apply Kept.drew | refine Kept.setCell ?_ (.inl (Or.inl (Or.inr rfl))) _ | refine Kept.setCell ?_ (.inl (Or.inr rfl)) _) | exact HK.out)).1) : p := h
theorem zG60 {p : Prop} (h : p := by first | exact HK.out.1 | exact (show Kept w _ (fun k_ => (P0_2_ k_ ∨ P0_3_ k_) ∨ k_ = gi0) from by repeat (first | (with_reducible first | exact HK.out | apply Kept.alloc | apply Kept.drewN | apply Kept.drew | refine Kept.setCell ?_ (.inl (Or.inr rfl)) _ | refine Kept.setCell ?_ (.inr GW223.out) _) | exact HK.out)).1) : p := h
theorem zG61 {p : Prop} (h : p := by first | exact HK.out.1 | exact (show Kept w _ (fun k_ => (P0_2_ k_ ∨ P0_3_ k_) ∨ k_ = gi0) from by repeat (first | (with_reducible first | exact HK.out | apply Kept.alloc | apply Kept.drewN | apply Kept.drew | refine Kept.setCell ?_ (.inl (Or.inr rfl)) _) | exact HK.out)).1) : p := h
theorem zG62 {p : Prop} (h : p := by repeat (first | (with_reducible first | exact HK.out | apply Kept.alloc | apply Kept.drewN | apply Kept.drew | refine Kept.setCell ?_ (.inl (Or.inl (Or.inr rfl))) _ | refine Kept.setCell ?_ (.inl (Or.inr rfl)) _) | exact HK.out)) : p := h
theorem zG63 {p : Prop} (h : p := by repeat (first | (with_reducible first | exact HK.out | apply Kept.alloc | apply Kept.drewN | apply Kept.drew | refine Kept.setCell ?_ (.inl (Or.inr rfl)) _ | refine Kept.setCell ?_ (.inr GW223.out) _) | exact HK.out)) : p := h
theorem zG64 {p : Prop} (h : p := by repeat (first | (with_reducible first | exact HB.out | apply zj | apply ze | apply zi | refine zf ?_ GE1.out | refine zf ?_ GE2.out | refine zf ?_ GE3.out | refine zf ?_ GE4.out) | exact HB.out)) : p := h
theorem zG65 {p : Prop} (h : p := by repeat (first | (with_reducible first | exact HK.out | apply Kept.alloc | apply Kept.drewN | apply Kept.drew | refine Kept.setCell ?_ (.inl (Or.inr rfl)) _) | exact HK.out)) : p := h
theorem zG66 {p : Prop} (h : p := by repeat (first | (with_reducible first | exact HB.out | apply zj | apply ze | apply zi | refine zf ?_ GE310.out | refine zf ?_ GE323.out) | exact HB.out)) : p := h
theorem zG67 {p : Prop} (h : p := by repeat (first | (with_reducible first | exact HB.out | apply zj | apply ze | apply zi | refine zf ?_ GE0.out | refine zf ?_ GE223.out) | exact HB.out)) : p := h
theorem zG68 {p : Prop} (h : p := by (try simp only [List.map_toArray, List.map_cons, List.map_nil]); first | done | rfl | (simp only [List.length_drop, List.length_take]; rfl)) : p := h
theorem zG69 {p : Prop} (h : p := by (with_reducible repeat (first | apply zk | apply zl | apply zm)); exact zp HO0_2.out (fun _ hk => ⟨hk.1.1.1, ⟨hk.1.1.2, ⟨hk.1.2, hk.2⟩⟩⟩)) : p := h
theorem zG70 {p : Prop} (h : p := by (with_reducible repeat (first | apply zk | apply zl | apply zm)); exact zp HO0_3.out (fun _ hk => ⟨hk.1.1.1, ⟨hk.1.1.2, ⟨hk.1.2, hk.2⟩⟩⟩)) : p := h
theorem zG71 {p : Prop} (h : p := by (with_reducible repeat (first | apply zk | apply zl | apply zm)); exact zp HO216.out (fun _ hk => ⟨hk.1.1.1, ⟨hk.1.2, ⟨hk.2, hk.1.1.2⟩⟩⟩)) : p := h
theorem zG72 {p : Prop} (h : p := by (with_reducible repeat (first | apply zk | apply zl | apply zm)); exact zp HO219.out (fun _ hk => ⟨hk.1.1.1, ⟨hk.1.2, ⟨hk.2, hk.1.1.2⟩⟩⟩)) : p := h
theorem zG73 {p : Prop} (h : p := by repeat (first | (with_reducible first | exact HB.out | apply zj | apply ze | apply zi | refine zf ?_ GE273.out) | exact HB.out)) : p := h
theorem zG74 {p : Prop} (h : p := by repeat (first | (with_reducible first | exact HB.out | apply zj | apply ze | apply zi | refine zf ?_ GE277.out) | exact HB.out)) : p := h
theorem zG75 {p : Prop} (h : p := by repeat (first | (with_reducible first | exact HB.out | apply zj | apply ze | apply zi | refine zf ?_ GE0.out) | exact HB.out)) : p := h
theorem zG76 {p : Prop} (h : p := by repeat (first | (with_reducible first | exact HB.out | apply zj | apply ze | apply zi) | exact HB.out)) : p := h
theorem zG77 {p : Prop} (h : p := by (with_reducible repeat (first | refine zc ?_ _ | refine zd ?_ | refine zb ?_ _)); exact BK243.out) : p := h
theorem zG78 {p : Prop} (h : p := by (with_reducible repeat (first | refine zc ?_ _ | refine zd ?_ | refine zb ?_ _)); exact BK273.out) : p := h
theorem zG79 {p : Prop} (h : p := by (with_reducible repeat (first | refine zc ?_ _ | refine zd ?_ | refine zb ?_ _)); exact BK277.out) : p := h
theorem zG80 {p : Prop} (h : p := by (with_reducible repeat (first | refine zc ?_ _ | refine zd ?_ | refine zb ?_ _)); exact BK310.out) : p := h
theorem zG81 {p : Prop} (h : p := by (with_reducible repeat (first | refine zc ?_ _ | refine zd ?_ | refine zb ?_ _)); exact BK323.out) : p := h
theorem zG82 {p : Prop} (h : p := by (with_reducible repeat (first | refine zc ?_ _ | refine zd ?_ | refine zb ?_ _)); exact BK126.out) : p := h
theorem zG83 {p : Prop} (h : p := by (with_reducible repeat (first | refine zc ?_ _ | refine zd ?_ | refine zb ?_ _)); exact BK175.out) : p := h
theorem zG84 {p : Prop} (h : p := by (with_reducible repeat (first | refine zc ?_ _ | refine zd ?_ | refine zb ?_ _)); exact BK176.out) : p := h
theorem zG85 {p : Prop} (h : p := by (with_reducible repeat (first | refine zc ?_ _ | refine zd ?_ | refine zb ?_ _)); exact BK177.out) : p := h
theorem zG86 {p : Prop} (h : p := by (with_reducible repeat (first | refine zc ?_ _ | refine zd ?_ | refine zb ?_ _)); exact BK223.out) : p := h
theorem zG87 {p : Prop} (h : p := by (with_reducible repeat (first | refine zc ?_ _ | refine zd ?_ | refine zb ?_ _)); exact BK2.out) : p := h
theorem zG88 {p : Prop} (h : p := by (with_reducible repeat (first | refine zc ?_ _ | refine zd ?_ | refine zb ?_ _)); exact BK1.out) : p := h
theorem zG89 {p : Prop} (h : p := by (with_reducible repeat (first | refine zc ?_ _ | refine zd ?_ | refine zb ?_ _)); exact BK3.out) : p := h
theorem zG90 {p : Prop} (h : p := by (with_reducible repeat (first | refine zc ?_ _ | refine zd ?_ | refine zb ?_ _)); exact BK4.out) : p := h
theorem zG91 {p : Prop} (h : p := by (with_reducible repeat (first | refine zc ?_ _ | refine zd ?_ | refine zb ?_ _)); exact BK0.out) : p := h
theorem zG92 {p : Prop} (h : p := by (with_reducible repeat (first | apply zk | apply zl | apply zm)); exact HO_311000.out) : p := h
theorem zG93 {p : Prop} (h : p := by (with_reducible repeat (first | apply zk | apply zl | apply zm)); exact HO_311001.out) : p := h
theorem zG94 {p : Prop} (h : p := by (with_reducible repeat (first | apply zk | apply zl | apply zm)); exact HO_324000.out) : p := h
theorem zG95 {p : Prop} (h : p := by (with_reducible repeat (first | apply zk | apply zl | apply zm)); exact HO_324001.out) : p := h
theorem zG96 {p : Prop} (h : p := by (with_reducible repeat (first | apply zk | apply zl | apply zm)); exact HO4_0.out) : p := h
theorem zG97 {p : Prop} (h : p := by (with_reducible repeat (first | apply zk | apply zl | apply zm)); exact HO4_1.out) : p := h
theorem zG98 {p : Prop} (h : p := by (with_reducible repeat (first | apply zk | apply zl | apply zm)); exact HO0_2.out) : p := h
theorem zG99 {p : Prop} (h : p := by (with_reducible repeat (first | apply zk | apply zl | apply zm)); exact HO0_3.out) : p := h
theorem zG100 {p : Prop} (h : p := by first | rfl | (simp; done) | (simp [*]; done)) : p := h
theorem zG101 {p : Prop} (h : p := by kernel_rfl) : p := h
theorem zG102 {p : Prop} (h : p := by decide) : p := h
-- pressed
abbrev zA_ := @And.intro
theorem zH0 {p : Prop} (h : p := by refine (Kd.R_reads' (e := 3) (base := w.heap.size) (ok := fun k_ => (((some k_ ≠ (.slice Ao14 t301.length co14 : Value).ownBlock ∧ (some k_ ≠ (.slice Ao21 t314.length co21 : Value).ownBlock ∧ some k_ ≠ (.slice Ao24 t317.length co24 : Value).ownBlock)) ∧ some k_ ≠ (.slice Ao78 t339.length co78 : Value).ownBlock) ∧ some k_ ≠ (.slice Ao82 t342.length co82 : Value).ownBlock)) (n := t304.length) (c := co16) ?_).2.2; exact (by (with_reducible repeat (first | apply zk | apply zl | apply zm)); exact (zp (zn (p := ⟨gb348, 3, none⟩) (zn (p := ⟨gb348, 2, none⟩) (zn (p := ⟨gb348, 1, none⟩) (zn (p := ⟨gb348, 0, none⟩) (zv HO_311001.out BK348.out zG102) (fun _ hk => hk.2) (.slice Ao78 t339.length co78)) (fun _ hk => hk.2) (.slice Ao82 t342.length co82)) (fun _ hk => hk.2) (.int .i64 t345)) (fun _ hk => hk.2) (.int .i64 t346)) (fun _ h_ => h_.1)))) : p := h
theorem zH1 {p : Prop} (h : p := by refine (Kd.R_reads' (e := 3) (base := w.heap.size) (ok := fun k_ => (((some k_ ≠ (.slice Ao16 t304.length co16 : Value).ownBlock ∧ (some k_ ≠ (.slice Ao21 t314.length co21 : Value).ownBlock ∧ some k_ ≠ (.slice Ao24 t317.length co24 : Value).ownBlock)) ∧ some k_ ≠ (.slice Ao78 t339.length co78 : Value).ownBlock) ∧ some k_ ≠ (.slice Ao82 t342.length co82 : Value).ownBlock)) (n := t301.length) (c := co14) ?_).2.2; exact (by (with_reducible repeat (first | apply zk | apply zl | apply zm)); exact (zp (zn (p := ⟨gb348, 3, none⟩) (zn (p := ⟨gb348, 2, none⟩) (zn (p := ⟨gb348, 1, none⟩) (zn (p := ⟨gb348, 0, none⟩) (zv HO_311000.out BK348.out zG102) (fun _ hk => hk.2) (.slice Ao78 t339.length co78)) (fun _ hk => hk.2) (.slice Ao82 t342.length co82)) (fun _ hk => hk.2) (.int .i64 t345)) (fun _ hk => hk.2) (.int .i64 t346)) (fun _ h_ => h_.1)))) : p := h
theorem zH2 {p : Prop} (h : p := by refine (Kd.R_reads' (e := 3) (base := w.heap.size) (ok := fun k_ => ((((some k_ ≠ (.slice Ao78 t339.length co78 : Value).ownBlock ∧ some k_ ≠ (.slice Ao14 t301.length co14 : Value).ownBlock) ∧ some k_ ≠ (.slice Ao16 t304.length co16 : Value).ownBlock) ∧ some k_ ≠ (.slice Ao21 t314.length co21 : Value).ownBlock) ∧ some k_ ≠ (.slice Ao24 t317.length co24 : Value).ownBlock)) (n := t342.length) (c := co82) ?_).2.2; exact (by (with_reducible repeat (first | apply zk | apply zl | apply zm)); exact (zp (zn (p := ⟨gb348, 3, none⟩) (zn (p := ⟨gb348, 2, none⟩) (zn (p := ⟨gb348, 1, none⟩) (zn (p := ⟨gb348, 0, none⟩) (zv HO344.out BK348.out zG102) (fun _ hk => hk.2) (.slice Ao78 t339.length co78)) (fun _ hk => hk.2) (.slice Ao82 t342.length co82)) (fun _ hk => hk.2) (.int .i64 t345)) (fun _ hk => hk.2) (.int .i64 t346)) (fun _ h_ => h_.1)))) : p := h
theorem zH3 {p : Prop} (h : p := by refine (Kd.R_reads' (e := 3) (base := w.heap.size) (ok := fun k_ => ((((some k_ ≠ (.slice Ao82 t342.length co82 : Value).ownBlock ∧ some k_ ≠ (.slice Ao14 t301.length co14 : Value).ownBlock) ∧ some k_ ≠ (.slice Ao16 t304.length co16 : Value).ownBlock) ∧ some k_ ≠ (.slice Ao21 t314.length co21 : Value).ownBlock) ∧ some k_ ≠ (.slice Ao24 t317.length co24 : Value).ownBlock)) (n := t339.length) (c := co78) ?_).2.2; exact (by (with_reducible repeat (first | apply zk | apply zl | apply zm)); exact (zp (zn (p := ⟨gb348, 3, none⟩) (zn (p := ⟨gb348, 2, none⟩) (zn (p := ⟨gb348, 1, none⟩) (zn (p := ⟨gb348, 0, none⟩) (zv HO341.out BK348.out zG102) (fun _ hk => hk.2) (.slice Ao78 t339.length co78)) (fun _ hk => hk.2) (.slice Ao82 t342.length co82)) (fun _ hk => hk.2) (.int .i64 t345)) (fun _ hk => hk.2) (.int .i64 t346)) (fun _ h_ => h_.1)))) : p := h
theorem zH4 {p : Prop} (h : p := by refine (Kd.R_reads' (e := 3) (base := w.heap.size) (ok := fun k_ => ((some k_ ≠ (.slice Ao14 t301.length co14 : Value).ownBlock ∧ some k_ ≠ (.slice Ao21 t314.length co21 : Value).ownBlock) ∧ some k_ ≠ (.slice Ao24 t317.length co24 : Value).ownBlock)) (n := t304.length) (c := co16) ?_).2.2; exact (by (with_reducible repeat (first | apply zk | apply zl | apply zm)); exact (zp (zn (p := ⟨gb323, 3, none⟩) (zn (p := ⟨gb323, 2, none⟩) (zn (p := ⟨gb323, 1, none⟩) (zn (p := ⟨gb323, 0, none⟩) (zv HO306.out BK323.out zG102) (fun _ hk => hk.2) (.slice Ao21 t314.length co21)) (fun _ hk => hk.2) (.slice Ao24 t317.length co24)) (fun _ hk => hk.2) (.int .i64 t320)) (fun _ hk => hk.2) (.int .i64 t321)) (fun _ h_ => h_.1)))) : p := h
theorem zH5 {p : Prop} (h : p := by refine (Kd.R_reads' (e := 3) (base := w.heap.size) (ok := fun k_ => ((some k_ ≠ (.slice Ao16 t304.length co16 : Value).ownBlock ∧ some k_ ≠ (.slice Ao21 t314.length co21 : Value).ownBlock) ∧ some k_ ≠ (.slice Ao24 t317.length co24 : Value).ownBlock)) (n := t301.length) (c := co14) ?_).2.2; exact (by (with_reducible repeat (first | apply zk | apply zl | apply zm)); exact (zp (zn (p := ⟨gb323, 3, none⟩) (zn (p := ⟨gb323, 2, none⟩) (zn (p := ⟨gb323, 1, none⟩) (zn (p := ⟨gb323, 0, none⟩) (zv HO303.out BK323.out zG102) (fun _ hk => hk.2) (.slice Ao21 t314.length co21)) (fun _ hk => hk.2) (.slice Ao24 t317.length co24)) (fun _ hk => hk.2) (.int .i64 t320)) (fun _ hk => hk.2) (.int .i64 t321)) (fun _ h_ => h_.1)))) : p := h
theorem zH6 {p : Prop} (h : p := by refine (Kd.R_reads' (e := 3) (base := w.heap.size) (ok := fun k_ => ((some k_ ≠ (.slice Ao21 t314.length co21 : Value).ownBlock ∧ some k_ ≠ (.slice Ao14 t301.length co14 : Value).ownBlock) ∧ some k_ ≠ (.slice Ao16 t304.length co16 : Value).ownBlock)) (n := t317.length) (c := co24) ?_).2.2; exact (by (with_reducible repeat (first | apply zk | apply zl | apply zm)); exact (zp (zn (p := ⟨gb323, 3, none⟩) (zn (p := ⟨gb323, 2, none⟩) (zn (p := ⟨gb323, 1, none⟩) (zn (p := ⟨gb323, 0, none⟩) (zv HO319.out BK323.out zG102) (fun _ hk => hk.2) (.slice Ao21 t314.length co21)) (fun _ hk => hk.2) (.slice Ao24 t317.length co24)) (fun _ hk => hk.2) (.int .i64 t320)) (fun _ hk => hk.2) (.int .i64 t321)) (fun _ h_ => h_.1)))) : p := h
theorem zH7 {p : Prop} (h : p := by refine (Kd.R_reads' (e := 3) (base := w.heap.size) (ok := fun k_ => ((some k_ ≠ (.slice Ao24 t317.length co24 : Value).ownBlock ∧ some k_ ≠ (.slice Ao14 t301.length co14 : Value).ownBlock) ∧ some k_ ≠ (.slice Ao16 t304.length co16 : Value).ownBlock)) (n := t314.length) (c := co21) ?_).2.2; exact (by (with_reducible repeat (first | apply zk | apply zl | apply zm)); exact (zp (zn (p := ⟨gb323, 3, none⟩) (zn (p := ⟨gb323, 2, none⟩) (zn (p := ⟨gb323, 1, none⟩) (zn (p := ⟨gb323, 0, none⟩) (zv HO316.out BK323.out zG102) (fun _ hk => hk.2) (.slice Ao21 t314.length co21)) (fun _ hk => hk.2) (.slice Ao24 t317.length co24)) (fun _ hk => hk.2) (.int .i64 t320)) (fun _ hk => hk.2) (.int .i64 t321)) (fun _ h_ => h_.1)))) : p := h
theorem zH8 {p : Prop} (h : p := by (with_reducible repeat (first | refine zc ?_ _ | refine zd ?_ | refine zb ?_ _)); refine zs ?_ NB0_223.out _; (with_reducible repeat (first | refine zc ?_ _ | refine zd ?_ | refine zb ?_ _)); refine zs ?_ NB0_223.out _; (with_reducible repeat (first | refine zc ?_ _ | refine zd ?_ | refine zb ?_ _)); refine zs ?_ NB0_223.out _; (with_reducible repeat (first | refine zc ?_ _ | refine zd ?_ | refine zb ?_ _)); refine zs ?_ NB0_223.out _; (with_reducible repeat (first | refine zc ?_ _ | refine zd ?_ | refine zb ?_ _)); exact BK0.out) : p := h
theorem zH9 {p : Prop} (h : p := by exact zbd k37_heap HR0.out (by repeat (first | (with_reducible first | exact HB.out | apply zj | apply ze | apply zi | refine zf ?_ GE175.out | refine zf ?_ GE176.out | refine zf ?_ GE177.out | refine zf ?_ GE179.out | refine zf ?_ GE180.out) | exact HB.out)) (fun k_ hs_ => Or.elim hs_ (fun hs_ => Or.elim hs_ (fun hs_ => Or.elim hs_ (fun e_ => (fun e_ => by simp [Value.ownBlock] at e_) e_) (fun e_ => (fun e_ => by simp [Value.ownBlock] at e_) e_)) (fun e_ => (by rw [e_]; exact GW180.out))) (fun e_ => (by rw [e_]; exact GW179.out)))) : p := h
theorem zH10 {p : Prop} (h : p := by exact (fun k_ hk => ⟨(.inr (Nat.le_trans zG60 hk)), Kd.fresh' (zaa (by (with_reducible repeat (first | apply zk | apply zl | apply zm)); exact HO_1002.out)) k_ hk, Kd.fresh' (zaa (by (with_reducible repeat (first | apply zk | apply zl | apply zm)); exact HO_1003.out)) k_ hk, Kd.fresh' (zaa (by (with_reducible repeat (first | apply zk | apply zl | apply zm)); exact HO_224000.out)) k_ hk, Kd.fresh' (zaa (by (with_reducible repeat (first | apply zk | apply zl | apply zm)); exact HO_224001.out)) k_ hk⟩)) : p := h
theorem zH11 {p : Prop} (h : p := by exact ⟨by first | rfl | (simp [errW_none, errW_some] <;> rfl) | (simp [*, errW_none, errW_some] <;> rfl), by (with_reducible repeat (first | apply zk | apply zl | apply zm)); exact HO_0.out, by repeat (first | (with_reducible first | exact HB.out | apply zj | apply ze | apply zi) | exact HB.out), by repeat (first | (with_reducible first | exact HK.out | apply Kept.alloc | apply Kept.drewN | apply Kept.drew) | exact HK.out)⟩) : p := h
theorem zH12 {p : Prop} (h : p := by exact zbd k37_heap HR0.out (by repeat (first | (with_reducible first | exact HB.out | apply zj | apply ze | apply zi | refine zf ?_ GE243.out | refine zf ?_ GE245.out) | exact HB.out)) (fun k_ hs_ => Or.elim hs_ (fun hs_ => Or.elim hs_ (fun e_ => (fun e_ => by simp [Value.ownBlock] at e_) e_) (fun e_ => (fun e_ => by simp [Value.ownBlock] at e_) e_)) (fun e_ => (by rw [e_]; exact GW245.out)))) : p := h
theorem zH13 {p : Prop} (h : p := by repeat (first | exact (zai HR0_1.out (by repeat (first | (with_reducible first | exact HB.out | apply zj | apply ze | apply zi | refine zf ?_ GE273.out | refine zf ?_ GE274.out) | exact HB.out))) | (with_reducible refine zy ?_ _) | (with_reducible refine zz ?_ _) | (with_reducible refine zab ?_))) : p := h
theorem zH14 {p : Prop} (h : p := by repeat (first | exact (zai HR1_1.out (by repeat (first | (with_reducible first | exact HB.out | apply zj | apply ze | apply zi | refine zf ?_ GE273.out | refine zf ?_ GE274.out) | exact HB.out))) | (with_reducible refine zy ?_ _) | (with_reducible refine zz ?_ _) | (with_reducible refine zab ?_))) : p := h
theorem zH15 {p : Prop} (h : p := by exact ⟨by first | rfl | (simp [errW_none, errW_some] <;> rfl) | (simp [*, errW_none, errW_some] <;> rfl), by repeat (first | (with_reducible first | exact HB.out | apply zj | apply ze | apply zi | refine zf ?_ GE310.out | refine zf ?_ GE323.out | refine zf ?_ GE348.out) | exact HB.out)⟩) : p := h
theorem zH16 {p : Prop} (h : p := by repeat (first | (with_reducible first | exact HK.out | apply Kept.alloc | apply Kept.drewN | apply Kept.drew | refine Kept.setCell ?_ (.inl (Or.inl (Or.inr rfl))) _ | refine Kept.setCell ?_ (.inl (Or.inr rfl)) _ | refine Kept.setCell ?_ (.inr GW149.out) _) | exact HK.out)) : p := h
theorem zH17 {p : Prop} (h : p := by repeat (first | exact (zai HR0_1.out (by repeat (first | (with_reducible first | exact HB.out | apply zj | apply ze | apply zi | refine zf ?_ GE294.out) | exact HB.out))) | (with_reducible refine zy ?_ _) | (with_reducible refine zz ?_ _) | (with_reducible refine zab ?_))) : p := h
theorem zH18 {p : Prop} (h : p := by exact ⟨by first | rfl | (simp [errW_none, errW_some] <;> rfl) | (simp [*, errW_none, errW_some] <;> rfl), by repeat (first | (with_reducible first | exact HB.out | apply zj | apply ze | apply zi | refine zf ?_ GE273.out | refine zf ?_ GE274.out) | exact HB.out)⟩) : p := h
theorem zH19 {p : Prop} (h : p := by exact ⟨by first | rfl | (simp [errW_none, errW_some] <;> rfl) | (simp [*, errW_none, errW_some] <;> rfl), by repeat (first | (with_reducible first | exact HB.out | apply zj | apply ze | apply zi | refine zf ?_ GE310.out | refine zf ?_ GE323.out) | exact HB.out)⟩) : p := h
theorem zH20 {p : Prop} (h : p := by exact ⟨by first | rfl | (simp [errW_none, errW_some] <;> rfl) | (simp [*, errW_none, errW_some] <;> rfl), by repeat (first | (with_reducible first | exact HB.out | apply zj | apply ze | apply zi | refine zf ?_ GE277.out | refine zf ?_ GE278.out) | exact HB.out)⟩) : p := h
theorem zH21 {p : Prop} (h : p := by exact zbf ((zv HO248.out BK245.out zG102)) (fun k_ hk_ hs_ => Or.elim hs_ (fun hs_ => Or.elim hs_ (fun e_ => (fun e_ => by simp [Value.ownBlock] at e_) e_) (fun e_ => (fun e_ => by simp [Value.ownBlock] at e_) e_)) (fun e_ => (hk_.2) e_))) : p := h
theorem zH22 {p : Prop} (h : p := by exact ⟨by first | rfl | (simp [errW_none, errW_some] <;> rfl) | (simp [*, errW_none, errW_some] <;> rfl), by repeat (first | (with_reducible first | exact HB.out | apply zj | apply ze | apply zi | refine zf ?_ GE294.out) | exact HB.out)⟩) : p := h
theorem zH23 {p : Prop} (h : p := by exact ⟨by first | rfl | (simp [errW_none, errW_some] <;> rfl) | (simp [*, errW_none, errW_some] <;> rfl), by repeat (first | (with_reducible first | exact HB.out | apply zj | apply ze | apply zi | refine zf ?_ GE101.out) | exact HB.out)⟩) : p := h
theorem zH24 {p : Prop} (h : p := by exact ⟨by first | rfl | (simp [errW_none, errW_some] <;> rfl) | (simp [*, errW_none, errW_some] <;> rfl), by repeat (first | (with_reducible first | exact HB.out | apply zj | apply ze | apply zi | refine zf ?_ GE191.out) | exact HB.out)⟩) : p := h
theorem zH25 {p : Prop} (h : p := by repeat (first | (with_reducible first | exact HK.out | apply Kept.alloc | apply Kept.drewN | apply Kept.drew | refine Kept.setCell ?_ (.inl (Or.inl (Or.inr rfl))) _ | refine Kept.setCell ?_ (.inl (Or.inr rfl)) _) | exact HK.out)) : p := h
theorem zH26 {p : Prop} (h : p := by repeat (first | (with_reducible first | exact HB.out | apply zj | apply ze | apply zi | refine zf ?_ GE175.out | refine zf ?_ GE176.out | refine zf ?_ GE177.out | refine zf ?_ GE179.out | refine zf ?_ GE180.out) | exact HB.out)) : p := h
theorem zH27 {p : Prop} (h : p := by repeat (first | (with_reducible first | exact HB.out | apply zj | apply ze | apply zi | refine zf ?_ GE175.out | refine zf ?_ GE176.out | refine zf ?_ GE177.out | refine zf ?_ GE179.out | refine zf ?_ GE180.out) | exact HB.out)) : p := h
theorem zH28 {p : Prop} (h : p := by repeat (first | (with_reducible first | exact HB.out | apply zj | apply ze | apply zi | refine zf ?_ GE1.out | refine zf ?_ GE2.out | refine zf ?_ GE3.out | refine zf ?_ GE4.out | refine zf ?_ GE149.out) | exact HB.out)) : p := h
theorem zH29 {p : Prop} (h : p := by repeat (first | (with_reducible first | exact HK.out | apply Kept.alloc | apply Kept.drewN | apply Kept.drew | refine Kept.setCell ?_ (.inl (Or.inr rfl)) _ | refine Kept.setCell ?_ (.inr GW223.out) _) | exact HK.out)) : p := h
theorem zH30 {p : Prop} (h : p := by exact (zq (by repeat (first | (with_reducible first | exact HB.out | apply zj | apply ze | apply zi | refine zf ?_ GE199.out | refine zf ?_ GE200.out | refine zf ?_ GE201.out | refine zf ?_ GE204.out) | exact HB.out)))) : p := h
theorem zH31 {p : Prop} (h : p := by exact (by repeat (first | (with_reducible first | exact HB.out | apply zj | apply ze | apply zi | refine zf ?_ GE199.out | refine zf ?_ GE200.out | refine zf ?_ GE201.out | refine zf ?_ GE204.out) | exact HB.out))) : p := h
theorem zH32 {p : Prop} (h : p := by exact ⟨by first | rfl | (simp [errW_none, errW_some] <;> rfl) | (simp [*, errW_none, errW_some] <;> rfl), by repeat (first | (with_reducible first | exact HB.out | apply zj | apply ze | apply zi) | exact HB.out)⟩) : p := h
theorem zH33 {p : Prop} (h : p := by repeat (first | (with_reducible first | exact HB.out | apply zj | apply ze | apply zi | refine zf ?_ GE199.out | refine zf ?_ GE200.out | refine zf ?_ GE201.out | refine zf ?_ GE204.out) | exact HB.out)) : p := h
theorem zH34 {p : Prop} (h : p := by repeat (first | (with_reducible first | exact HB.out | apply zj | apply ze | apply zi | refine zf ?_ GE126.out | refine zf ?_ GE130.out | refine zf ?_ GE131.out | refine zf ?_ GE134.out) | exact HB.out)) : p := h
theorem zH35 {p : Prop} (h : p := by repeat (first | (with_reducible first | exact HB.out | apply zj | apply ze | apply zi | refine zf ?_ GE3.out | refine zf ?_ GE4.out | refine zf ?_ GE5.out | refine zf ?_ GE6.out) | exact HB.out)) : p := h
theorem zH36 {p : Prop} (h : p := by repeat (first | (with_reducible first | exact HB.out | apply zj | apply ze | apply zi | refine zf ?_ GE3.out | refine zf ?_ GE4.out | refine zf ?_ GE5.out | refine zf ?_ GE6.out) | exact HB.out)) : p := h
theorem zH37 {p : Prop} (h : p := by repeat (first | (with_reducible first | exact HB.out | apply zj | apply ze | apply zi | refine zf ?_ GE126.out | refine zf ?_ GE130.out | refine zf ?_ GE131.out) | exact HB.out)) : p := h
theorem zH38 {p : Prop} (h : p := by repeat (first | (with_reducible first | exact HB.out | apply zj | apply ze | apply zi | refine zf ?_ GE199.out | refine zf ?_ GE200.out | refine zf ?_ GE201.out) | exact HB.out)) : p := h
theorem zH39 {p : Prop} (h : p := by repeat (first | (with_reducible first | exact HB.out | apply zj | apply ze | apply zi | refine zf ?_ GE310.out | refine zf ?_ GE323.out | refine zf ?_ GE348.out) | exact HB.out)) : p := h
theorem zH40 {p : Prop} (h : p := by (with_reducible repeat (first | apply zk | apply zl | apply zm)); exact zp HO_311000.out (fun _ hk => ⟨hk.1.1.1, ⟨hk.1.1.2.1, ⟨hk.1.1.2.2, ⟨hk.1.2, hk.2⟩⟩⟩⟩)) : p := h
theorem zH41 {p : Prop} (h : p := by (with_reducible repeat (first | apply zk | apply zl | apply zm)); exact zp HO_311001.out (fun _ hk => ⟨hk.1.1.1, ⟨hk.1.1.2.1, ⟨hk.1.1.2.2, ⟨hk.1.2, hk.2⟩⟩⟩⟩)) : p := h
theorem zH42 {p : Prop} (h : p := by (with_reducible repeat (first | apply zk | apply zl | apply zm)); exact zp HO_324000.out (fun _ hk => ⟨hk.1.1.1, ⟨hk.1.1.2.1, ⟨hk.1.1.2.2, ⟨hk.1.2, hk.2⟩⟩⟩⟩)) : p := h
theorem zH43 {p : Prop} (h : p := by (with_reducible repeat (first | apply zk | apply zl | apply zm)); exact zp HO_324001.out (fun _ hk => ⟨hk.1.1.1, ⟨hk.1.1.2.1, ⟨hk.1.1.2.2, ⟨hk.1.2, hk.2⟩⟩⟩⟩)) : p := h
theorem zH44 {p : Prop} (h : p := by (with_reducible repeat (first | apply zk | apply zl | apply zm)); exact zp HO341.out (fun _ hk => ⟨hk.1.1.1.2, ⟨hk.1.1.2, ⟨hk.1.2, ⟨hk.2, hk.1.1.1.1⟩⟩⟩⟩)) : p := h
theorem zH45 {p : Prop} (h : p := by (with_reducible repeat (first | apply zk | apply zl | apply zm)); exact zp HO344.out (fun _ hk => ⟨hk.1.1.1.2, ⟨hk.1.1.2, ⟨hk.1.2, ⟨hk.2, hk.1.1.1.1⟩⟩⟩⟩)) : p := h
theorem zH46 {p : Prop} (h : p := by repeat (first | exact (Kd.R_reads' HO_311000.out).2.2 | (with_reducible refine zy ?_ _) | (with_reducible refine zz ?_ _) | (with_reducible refine zab ?_))) : p := h
theorem zH47 {p : Prop} (h : p := by repeat (first | exact (Kd.R_reads' HO_311001.out).2.2 | (with_reducible refine zy ?_ _) | (with_reducible refine zz ?_ _) | (with_reducible refine zab ?_))) : p := h
theorem zH48 {p : Prop} (h : p := by repeat (first | (with_reducible first | exact HB.out | apply zj | apply ze | apply zi | refine zf ?_ GE243.out | refine zf ?_ GE245.out) | exact HB.out)) : p := h
theorem zH49 {p : Prop} (h : p := by repeat (first | exact (Kd.R_reads' HO_324000.out).2.2 | (with_reducible refine zy ?_ _) | (with_reducible refine zz ?_ _) | (with_reducible refine zab ?_))) : p := h
theorem zH50 {p : Prop} (h : p := by repeat (first | exact (Kd.R_reads' HO_324001.out).2.2 | (with_reducible refine zy ?_ _) | (with_reducible refine zz ?_ _) | (with_reducible refine zab ?_))) : p := h
theorem zH51 {p : Prop} (h : p := by repeat (first | (with_reducible first | exact HB.out | apply zj | apply ze | apply zi | refine zf ?_ GE310.out | refine zf ?_ GE323.out) | exact HB.out)) : p := h
theorem zH52 {p : Prop} (h : p := by repeat (first | (with_reducible first | exact HB.out | apply zj | apply ze | apply zi | refine zf ?_ GE0.out | refine zf ?_ GE223.out) | exact HB.out)) : p := h
theorem zH53 {p : Prop} (h : p := by repeat (first | (with_reducible first | exact HB.out | apply zj | apply ze | apply zi | refine zf ?_ GE243.out | refine zf ?_ GE245.out) | exact HB.out)) : p := h
theorem zH54 {p : Prop} (h : p := by repeat (first | (with_reducible first | exact HB.out | apply zj | apply ze | apply zi | refine zf ?_ GE310.out | refine zf ?_ GE323.out) | exact HB.out)) : p := h
theorem zH55 {p : Prop} (h : p := by repeat (first | exact (Kd.R_reads' HO327.out).2.2 | (with_reducible refine zy ?_ _) | (with_reducible refine zz ?_ _) | (with_reducible refine zab ?_))) : p := h
theorem zH56 {p : Prop} (h : p := by repeat (first | exact (Kd.R_reads' HO_8.out).2.2 | (with_reducible refine zy ?_ _) | (with_reducible refine zz ?_ _) | (with_reducible refine zab ?_))) : p := h
theorem zH57 {p : Prop} (h : p := by repeat (first | exact (zai HR1_0.out HB.out) | (with_reducible refine zy ?_ _) | (with_reducible refine zz ?_ _) | (with_reducible refine zab ?_))) : p := h
theorem zH58 {p : Prop} (h : p := by repeat (first | exact (zai HR0_0.out HB.out) | (with_reducible refine zy ?_ _) | (with_reducible refine zz ?_ _) | (with_reducible refine zab ?_))) : p := h
theorem zH59 {p : Prop} (h : p := by repeat (first | exact (zai HR0.out HB.out) | (with_reducible refine zy ?_ _) | (with_reducible refine zz ?_ _) | (with_reducible refine zab ?_))) : p := h
theorem zH60 {p : Prop} (h : p := by repeat (first | exact HR0.out | (with_reducible refine zy ?_ _) | (with_reducible refine zz ?_ _) | (with_reducible refine zab ?_))) : p := h
theorem zH61 {p : Prop} (h : p := by repeat (first | (with_reducible first | exact HK.out | apply Kept.alloc | apply Kept.drewN | apply Kept.drew) | exact HK.out)) : p := h
theorem zH62 {p : Prop} (h : p := by repeat (first | (with_reducible first | exact HB.out | apply zj | apply ze | apply zi | refine zf ?_ GE288.out) | exact HB.out)) : p := h
theorem zH63 {p : Prop} (h : p := by (with_reducible repeat (first | apply zk | apply zl | apply zm)); exact zp HO303.out (fun _ hk => ⟨hk.1.1, ⟨hk.1.2, hk.2⟩⟩)) : p := h
theorem zH64 {p : Prop} (h : p := by (with_reducible repeat (first | apply zk | apply zl | apply zm)); exact zp HO306.out (fun _ hk => ⟨hk.1.1, ⟨hk.1.2, hk.2⟩⟩)) : p := h
theorem zH65 {p : Prop} (h : p := by (with_reducible repeat (first | apply zk | apply zl | apply zm)); exact zp HO316.out (fun _ hk => ⟨hk.1.2, ⟨hk.2, hk.1.1⟩⟩)) : p := h
theorem zH66 {p : Prop} (h : p := by (with_reducible repeat (first | apply zk | apply zl | apply zm)); exact zp HO319.out (fun _ hk => ⟨hk.1.2, ⟨hk.2, hk.1.1⟩⟩)) : p := h
theorem zH67 {p : Prop} (h : p := by first | exact zam _ _ _ _ _ | exact zat _ _ _ _ _ | exact zau _ _ _ _ _ | exact zav _ _ _ _ _ | exact zaw _ _ _ _ _) : p := h
theorem zH68 {p : Prop} (h : p := by exact ⟨by first | rfl | (simp; done) | (simp [*]; done), by repeat (first | exact Drawn0.refl _ | apply Drawn0.step)⟩) : p := h
theorem zH69 {p : Prop} (h : p := by rw [show t333.length = t314.length from (Kd.R_reads' HO_324000.out).1.symm]; exact (Kd.R_reads' HO_324000.out).2.1) : p := h
theorem zH70 {p : Prop} (h : p := by rw [show t334.length = t317.length from (Kd.R_reads' HO_324001.out).1.symm]; exact (Kd.R_reads' HO_324001.out).2.1) : p := h
theorem zH71 {p : Prop} (h : p := by (with_reducible repeat (first | apply zk | apply zl | apply zm)); exact zp HO313.out (fun _ hk => trivial)) : p := h
theorem zH72 {p : Prop} (h : p := by exact (by (with_reducible repeat (first | refine zc ?_ _ | refine zd ?_ | refine zb ?_ _)); exact BK179.out)) : p := h
theorem zH73 {p : Prop} (h : p := by exact (by (with_reducible repeat (first | refine zc ?_ _ | refine zd ?_ | refine zb ?_ _)); exact BK180.out)) : p := h
theorem zH74 {p : Prop} (h : p := by exact (by (with_reducible repeat (first | refine zc ?_ _ | refine zd ?_ | refine zb ?_ _)); exact BK245.out)) : p := h
theorem zH75 {p : Prop} (h : p := by exact (by (with_reducible repeat (first | refine zc ?_ _ | refine zd ?_ | refine zb ?_ _)); exact BK5.out)) : p := h
theorem zH76 {p : Prop} (h : p := by exact (by (with_reducible repeat (first | refine zc ?_ _ | refine zd ?_ | refine zb ?_ _)); exact BK6.out)) : p := h
theorem zH77 {p : Prop} (h : p := by repeat (first | (with_reducible first | exact HB.out | apply zj | apply ze | apply zi) | exact HB.out)) : p := h
theorem zH78 {p : Prop} (h : p := by (with_reducible repeat (first | refine zc ?_ _ | refine zd ?_ | refine zb ?_ _)); exact BK223.out) : p := h
theorem zH79 {p : Prop} (h : p := by (with_reducible repeat (first | refine zc ?_ _ | refine zd ?_ | refine zb ?_ _)); exact BK310.out) : p := h
theorem zH80 {p : Prop} (h : p := by (with_reducible repeat (first | refine zc ?_ _ | refine zd ?_ | refine zb ?_ _)); exact BK323.out) : p := h
theorem zH81 {p : Prop} (h : p := by (with_reducible repeat (first | refine zc ?_ _ | refine zd ?_ | refine zb ?_ _)); exact BK3.out) : p := h
theorem zH82 {p : Prop} (h : p := by (with_reducible repeat (first | refine zc ?_ _ | refine zd ?_ | refine zb ?_ _)); exact BK4.out) : p := h
theorem zH83 {p : Prop} (h : p := by (with_reducible repeat (first | refine zc ?_ _ | refine zd ?_ | refine zb ?_ _)); exact BK5.out) : p := h
theorem zH84 {p : Prop} (h : p := by (with_reducible repeat (first | refine zc ?_ _ | refine zd ?_ | refine zb ?_ _)); exact BK6.out) : p := h
theorem zH85 {p : Prop} (h : p := by (with_reducible repeat (first | refine zc ?_ _ | refine zd ?_ | refine zb ?_ _)); exact BK0.out) : p := h
theorem zH86 {p : Prop} (h : p := by first | rfl | (simp [errW_none, errW_some] <;> rfl) | (simp [*, errW_none, errW_some] <;> rfl)) : p := h
theorem zH87 {p : Prop} (h : p := by (with_reducible repeat (first | apply zk | apply zl | apply zm)); exact HO_311000.out) : p := h
theorem zH88 {p : Prop} (h : p := by (with_reducible repeat (first | apply zk | apply zl | apply zm)); exact HO_311001.out) : p := h
theorem zH89 {p : Prop} (h : p := by (with_reducible repeat (first | apply zk | apply zl | apply zm)); exact HO_324000.out) : p := h
theorem zH90 {p : Prop} (h : p := by (with_reducible repeat (first | apply zk | apply zl | apply zm)); exact HO_324001.out) : p := h
theorem zH91 {p : Prop} (h : p := by (with_reducible repeat (first | apply zk | apply zl | apply zm)); exact HO_224000.out) : p := h
theorem zH92 {p : Prop} (h : p := by (with_reducible repeat (first | apply zk | apply zl | apply zm)); exact HO_224001.out) : p := h
theorem zH93 {p : Prop} (h : p := by (with_reducible repeat (first | apply zk | apply zl | apply zm)); exact HO_1002.out) : p := h
theorem zH94 {p : Prop} (h : p := by (with_reducible repeat (first | apply zk | apply zl | apply zm)); exact HO_1003.out) : p := h
theorem zH95 {p : Prop} (h : p := by (with_reducible repeat (first | apply zk | apply zl | apply zm)); exact HO_0.out) : p := h
theorem zH96 {p : Prop} (h : p := by repeat (first | exact Drawn0.refl _ | apply Drawn0.step)) : p := h
theorem zH97 {p : Prop} (h : p := by intro k_ e_ e2_; simp [Value.ownBlock] at e_ e2_) : p := h
theorem zH98 {p : Prop} (h : p := by have := HK1.out; have := HK2.out; omega) : p := h
theorem zH99 {p : Prop} (h : p := by first | (go_simp; done) | (go_simp; rfl)) : p := h
theorem zH100 {p : Prop} (h : p := by exact (Kd.R_reads' HO_324000.out).2.1) : p := h
theorem zH101 {p : Prop} (h : p := by exact (Kd.R_reads' HO_324001.out).2.1) : p := h
theorem zH102 {p : Prop} (h : p := by have := HK1.out; omega) : p := h
theorem zH103 {p : Prop} (h : p := by exact HC0.out) : p := h
theorem zK104 {p : Prop} (h : p := by (with_reducible repeat (first | refine zc ?_ _ | refine zd ?_ | refine zb ?_ _)); refine zw (cs := #[.int .i64 ((rd_T37 l0 (rd l2 x11_1)).f0), .int .i64 ((rd_T37 l0 (rd l2 x11_1)).f1), .int .i64 ((rd_T37 l0 (rd l2 x11_1)).f2), .int .i64 ((rd_T37 l0 (rd l2 x11_1)).f3), .int .i64 0]) ?_ 4 _ rfl; (with_reducible repeat (first | refine zc ?_ _ | refine zd ?_ | refine zb ?_ _)); refine zw (cs := #[.int .i64 ((rd_T37 l0 (rd l2 x11_1)).f0), .int .i64 ((rd_T37 l0 (rd l2 x11_1)).f1), .int .i64 ((rd_T37 l0 (rd l2 x11_1)).f2), .int .i64 0, .int .i64 0]) ?_ 3 _ rfl; (with_reducible repeat (first | refine zc ?_ _ | refine zd ?_ | refine zb ?_ _)); refine zw (cs := #[.int .i64 ((rd_T37 l0 (rd l2 x11_1)).f0), .int .i64 ((rd_T37 l0 (rd l2 x11_1)).f1), .int .i64 0, .int .i64 0, .int .i64 0]) ?_ 2 _ rfl; (with_reducible repeat (first | refine zc ?_ _ | refine zd ?_ | refine zb ?_ _)); refine zw (cs := #[.int .i64 ((rd_T37 l0 (rd l2 x11_1)).f0), .int .i64 0, .int .i64 0, .int .i64 0, .int .i64 0]) ?_ 1 _ rfl; (with_reducible repeat (first | refine zc ?_ _ | refine zd ?_ | refine zb ?_ _)); refine zw (cs := #[.int .i64 0, .int .i64 0, .int .i64 0, .int .i64 0, .int .i64 0]) ?_ 0 _ rfl; (with_reducible repeat (first | refine zc ?_ _ | refine zd ?_ | refine zb ?_ _)); exact BK204.out) : p := h
theorem zK105 {p : Prop} (h : p := by (with_reducible repeat (first | refine zc ?_ _ | refine zd ?_ | refine zb ?_ _)); refine zw (cs := #[.int .i64 ((rd_T37 l0 (rd l2 x22_1)).f0), .int .i64 ((rd_T37 l0 (rd l2 x22_1)).f1), .int .i64 ((rd_T37 l0 (rd l2 x22_1)).f2), .int .i64 ((rd_T37 l0 (rd l2 x22_1)).f3), .int .i64 0]) ?_ 4 _ rfl; (with_reducible repeat (first | refine zc ?_ _ | refine zd ?_ | refine zb ?_ _)); refine zw (cs := #[.int .i64 ((rd_T37 l0 (rd l2 x22_1)).f0), .int .i64 ((rd_T37 l0 (rd l2 x22_1)).f1), .int .i64 ((rd_T37 l0 (rd l2 x22_1)).f2), .int .i64 0, .int .i64 0]) ?_ 3 _ rfl; (with_reducible repeat (first | refine zc ?_ _ | refine zd ?_ | refine zb ?_ _)); refine zw (cs := #[.int .i64 ((rd_T37 l0 (rd l2 x22_1)).f0), .int .i64 ((rd_T37 l0 (rd l2 x22_1)).f1), .int .i64 0, .int .i64 0, .int .i64 0]) ?_ 2 _ rfl; (with_reducible repeat (first | refine zc ?_ _ | refine zd ?_ | refine zb ?_ _)); refine zw (cs := #[.int .i64 ((rd_T37 l0 (rd l2 x22_1)).f0), .int .i64 0, .int .i64 0, .int .i64 0, .int .i64 0]) ?_ 1 _ rfl; (with_reducible repeat (first | refine zc ?_ _ | refine zd ?_ | refine zb ?_ _)); refine zw (cs := #[.int .i64 0, .int .i64 0, .int .i64 0, .int .i64 0, .int .i64 0]) ?_ 0 _ rfl; (with_reducible repeat (first | refine zc ?_ _ | refine zd ?_ | refine zb ?_ _)); exact BK134.out) : p := h
theorem zK106 {p : Prop} (h : p := by (with_reducible repeat (first | refine zc ?_ _ | refine zd ?_ | refine zb ?_ _)); refine zw (cs := #[.slice Ao21 t314.length co21, .slice Ao24 t317.length co24, .int .i64 t320, .int .i64 0]) ?_ 3 _ rfl; (with_reducible repeat (first | refine zc ?_ _ | refine zd ?_ | refine zb ?_ _)); refine zw (cs := #[.slice Ao21 t314.length co21, .slice Ao24 t317.length co24, .int .i64 0, .int .i64 0]) ?_ 2 _ rfl; (with_reducible repeat (first | refine zc ?_ _ | refine zd ?_ | refine zb ?_ _)); refine zw (cs := #[.slice Ao21 t314.length co21, .slice none 0 0, .int .i64 0, .int .i64 0]) ?_ 1 _ rfl; (with_reducible repeat (first | refine zc ?_ _ | refine zd ?_ | refine zb ?_ _)); refine zw (cs := #[.slice none 0 0, .slice none 0 0, .int .i64 0, .int .i64 0]) ?_ 0 _ rfl; (with_reducible repeat (first | refine zc ?_ _ | refine zd ?_ | refine zb ?_ _)); exact BK323.out) : p := h
theorem zK107 {p : Prop} (h : p := by (with_reducible repeat (first | refine zc ?_ _ | refine zd ?_ | refine zb ?_ _)); refine zw (cs := #[.slice Ao78 t339.length co78, .slice Ao82 t342.length co82, .int .i64 t345, .int .i64 0]) ?_ 3 _ rfl; (with_reducible repeat (first | refine zc ?_ _ | refine zd ?_ | refine zb ?_ _)); refine zw (cs := #[.slice Ao78 t339.length co78, .slice Ao82 t342.length co82, .int .i64 0, .int .i64 0]) ?_ 2 _ rfl; (with_reducible repeat (first | refine zc ?_ _ | refine zd ?_ | refine zb ?_ _)); refine zw (cs := #[.slice Ao78 t339.length co78, .slice none 0 0, .int .i64 0, .int .i64 0]) ?_ 1 _ rfl; (with_reducible repeat (first | refine zc ?_ _ | refine zd ?_ | refine zb ?_ _)); refine zw (cs := #[.slice none 0 0, .slice none 0 0, .int .i64 0, .int .i64 0]) ?_ 0 _ rfl; (with_reducible repeat (first | refine zc ?_ _ | refine zd ?_ | refine zb ?_ _)); exact BK348.out) : p := h
theorem zK108 {p : Prop} (h : p := by rw [hw]; exact (by (with_reducible repeat (first | refine zc ?_ _ | refine zd ?_ | refine zb ?_ _)); refine zw (cs := #[.slice none 0 0, .slice none 0 0, .int .i64 0, .int .i64 0]) ?_ 3 _ rfl; (with_reducible repeat (first | refine zc ?_ _ | refine zd ?_ | refine zb ?_ _)); refine zw (cs := #[.slice none 0 0, .slice none 0 0, .int .i64 0, .int .i64 0]) ?_ 2 _ rfl; (with_reducible repeat (first | refine zc ?_ _ | refine zd ?_ | refine zb ?_ _)); refine zw (cs := #[.slice none 0 0, .slice none 0 0, .int .i64 0, .int .i64 0]) ?_ 1 _ rfl; (with_reducible repeat (first | refine zc ?_ _ | refine zd ?_ | refine zb ?_ _)); refine zw (cs := #[.slice none 0 0, .slice none 0 0, .int .i64 0, .int .i64 0]) ?_ 0 _ rfl; (with_reducible repeat (first | refine zc ?_ _ | refine zd ?_ | refine zb ?_ _)); exact BK179.out)) : p := h
theorem zK109 {p : Prop} (h : p := by (with_reducible repeat (first | refine zc ?_ _ | refine zd ?_ | refine zb ?_ _)); refine zw (cs := #[.slice none 0 0, .slice none 0 0, .int .i64 0, .int .i64 0]) ?_ 3 _ rfl; (with_reducible repeat (first | refine zc ?_ _ | refine zd ?_ | refine zb ?_ _)); refine zw (cs := #[.slice none 0 0, .slice none 0 0, .int .i64 0, .int .i64 0]) ?_ 2 _ rfl; (with_reducible repeat (first | refine zc ?_ _ | refine zd ?_ | refine zb ?_ _)); refine zw (cs := #[.slice none 0 0, .slice none 0 0, .int .i64 0, .int .i64 0]) ?_ 1 _ rfl; (with_reducible repeat (first | refine zc ?_ _ | refine zd ?_ | refine zb ?_ _)); refine zw (cs := #[.slice none 0 0, .slice none 0 0, .int .i64 0, .int .i64 0]) ?_ 0 _ rfl; (with_reducible repeat (first | refine zc ?_ _ | refine zd ?_ | refine zb ?_ _)); exact BK200.out) : p := h
theorem zK110 {p : Prop} (h : p := by (with_reducible repeat (first | refine zc ?_ _ | refine zd ?_ | refine zb ?_ _)); refine zw (cs := #[.slice none 0 0, .slice none 0 0, .int .i64 0, .int .i64 0]) ?_ 3 _ rfl; (with_reducible repeat (first | refine zc ?_ _ | refine zd ?_ | refine zb ?_ _)); refine zw (cs := #[.slice none 0 0, .slice none 0 0, .int .i64 0, .int .i64 0]) ?_ 2 _ rfl; (with_reducible repeat (first | refine zc ?_ _ | refine zd ?_ | refine zb ?_ _)); refine zw (cs := #[.slice none 0 0, .slice none 0 0, .int .i64 0, .int .i64 0]) ?_ 1 _ rfl; (with_reducible repeat (first | refine zc ?_ _ | refine zd ?_ | refine zb ?_ _)); refine zw (cs := #[.slice none 0 0, .slice none 0 0, .int .i64 0, .int .i64 0]) ?_ 0 _ rfl; (with_reducible repeat (first | refine zc ?_ _ | refine zd ?_ | refine zb ?_ _)); exact BK243.out) : p := h
theorem zK111 {p : Prop} (h : p := by (with_reducible repeat (first | refine zc ?_ _ | refine zd ?_ | refine zb ?_ _)); refine zw (cs := #[.slice none 0 0, .slice none 0 0, .int .i64 0, .int .i64 0]) ?_ 3 _ rfl; (with_reducible repeat (first | refine zc ?_ _ | refine zd ?_ | refine zb ?_ _)); refine zw (cs := #[.slice none 0 0, .slice none 0 0, .int .i64 0, .int .i64 0]) ?_ 2 _ rfl; (with_reducible repeat (first | refine zc ?_ _ | refine zd ?_ | refine zb ?_ _)); refine zw (cs := #[.slice none 0 0, .slice none 0 0, .int .i64 0, .int .i64 0]) ?_ 1 _ rfl; (with_reducible repeat (first | refine zc ?_ _ | refine zd ?_ | refine zb ?_ _)); refine zw (cs := #[.slice none 0 0, .slice none 0 0, .int .i64 0, .int .i64 0]) ?_ 0 _ rfl; (with_reducible repeat (first | refine zc ?_ _ | refine zd ?_ | refine zb ?_ _)); exact BK177.out) : p := h
theorem zK112 {p : Prop} (h : p := by (with_reducible repeat (first | refine zc ?_ _ | refine zd ?_ | refine zb ?_ _)); refine zs ?_ NB199_204.out _; (with_reducible repeat (first | refine zc ?_ _ | refine zd ?_ | refine zb ?_ _)); refine zs ?_ NB199_204.out _; (with_reducible repeat (first | refine zc ?_ _ | refine zd ?_ | refine zb ?_ _)); refine zs ?_ NB199_204.out _; (with_reducible repeat (first | refine zc ?_ _ | refine zd ?_ | refine zb ?_ _)); refine zs ?_ NB199_204.out _; (with_reducible repeat (first | refine zc ?_ _ | refine zd ?_ | refine zb ?_ _)); refine zs ?_ NB199_204.out _; (with_reducible repeat (first | refine zc ?_ _ | refine zd ?_ | refine zb ?_ _)); exact BK199.out) : p := h
theorem zK113 {p : Prop} (h : p := by (with_reducible repeat (first | refine zc ?_ _ | refine zd ?_ | refine zb ?_ _)); refine zs ?_ NB200_204.out _; (with_reducible repeat (first | refine zc ?_ _ | refine zd ?_ | refine zb ?_ _)); refine zs ?_ NB200_204.out _; (with_reducible repeat (first | refine zc ?_ _ | refine zd ?_ | refine zb ?_ _)); refine zs ?_ NB200_204.out _; (with_reducible repeat (first | refine zc ?_ _ | refine zd ?_ | refine zb ?_ _)); refine zs ?_ NB200_204.out _; (with_reducible repeat (first | refine zc ?_ _ | refine zd ?_ | refine zb ?_ _)); refine zs ?_ NB200_204.out _; (with_reducible repeat (first | refine zc ?_ _ | refine zd ?_ | refine zb ?_ _)); exact BK200.out) : p := h
theorem zK114 {p : Prop} (h : p := by (with_reducible repeat (first | refine zc ?_ _ | refine zd ?_ | refine zb ?_ _)); refine zs ?_ NB201_204.out _; (with_reducible repeat (first | refine zc ?_ _ | refine zd ?_ | refine zb ?_ _)); refine zs ?_ NB201_204.out _; (with_reducible repeat (first | refine zc ?_ _ | refine zd ?_ | refine zb ?_ _)); refine zs ?_ NB201_204.out _; (with_reducible repeat (first | refine zc ?_ _ | refine zd ?_ | refine zb ?_ _)); refine zs ?_ NB201_204.out _; (with_reducible repeat (first | refine zc ?_ _ | refine zd ?_ | refine zb ?_ _)); refine zs ?_ NB201_204.out _; (with_reducible repeat (first | refine zc ?_ _ | refine zd ?_ | refine zb ?_ _)); exact BK201.out) : p := h
theorem zK115 {p : Prop} (h : p := by (with_reducible repeat (first | refine zc ?_ _ | refine zd ?_ | refine zb ?_ _)); refine zs ?_ NB126_134.out _; (with_reducible repeat (first | refine zc ?_ _ | refine zd ?_ | refine zb ?_ _)); refine zs ?_ NB126_134.out _; (with_reducible repeat (first | refine zc ?_ _ | refine zd ?_ | refine zb ?_ _)); refine zs ?_ NB126_134.out _; (with_reducible repeat (first | refine zc ?_ _ | refine zd ?_ | refine zb ?_ _)); refine zs ?_ NB126_134.out _; (with_reducible repeat (first | refine zc ?_ _ | refine zd ?_ | refine zb ?_ _)); refine zs ?_ NB126_134.out _; (with_reducible repeat (first | refine zc ?_ _ | refine zd ?_ | refine zb ?_ _)); exact BK126.out) : p := h
theorem zK116 {p : Prop} (h : p := by (with_reducible repeat (first | refine zc ?_ _ | refine zd ?_ | refine zb ?_ _)); refine zs ?_ NB130_134.out _; (with_reducible repeat (first | refine zc ?_ _ | refine zd ?_ | refine zb ?_ _)); refine zs ?_ NB130_134.out _; (with_reducible repeat (first | refine zc ?_ _ | refine zd ?_ | refine zb ?_ _)); refine zs ?_ NB130_134.out _; (with_reducible repeat (first | refine zc ?_ _ | refine zd ?_ | refine zb ?_ _)); refine zs ?_ NB130_134.out _; (with_reducible repeat (first | refine zc ?_ _ | refine zd ?_ | refine zb ?_ _)); refine zs ?_ NB130_134.out _; (with_reducible repeat (first | refine zc ?_ _ | refine zd ?_ | refine zb ?_ _)); exact BK130.out) : p := h
theorem zK117 {p : Prop} (h : p := by (with_reducible repeat (first | refine zc ?_ _ | refine zd ?_ | refine zb ?_ _)); refine zs ?_ NB131_134.out _; (with_reducible repeat (first | refine zc ?_ _ | refine zd ?_ | refine zb ?_ _)); refine zs ?_ NB131_134.out _; (with_reducible repeat (first | refine zc ?_ _ | refine zd ?_ | refine zb ?_ _)); refine zs ?_ NB131_134.out _; (with_reducible repeat (first | refine zc ?_ _ | refine zd ?_ | refine zb ?_ _)); refine zs ?_ NB131_134.out _; (with_reducible repeat (first | refine zc ?_ _ | refine zd ?_ | refine zb ?_ _)); refine zs ?_ NB131_134.out _; (with_reducible repeat (first | refine zc ?_ _ | refine zd ?_ | refine zb ?_ _)); exact BK131.out) : p := h
theorem zK118 {p : Prop} (h : p := by (with_reducible repeat (first | apply zk | apply zl | apply zm)); exact (zp (zn (p := ⟨gb204, 4, none⟩) (zn (p := ⟨gb204, 3, none⟩) (zn (p := ⟨gb204, 2, none⟩) (zn (p := ⟨gb204, 1, none⟩) (zn (p := ⟨gb204, 0, none⟩) (zv HO_201000.out BK204.out zG102) (fun _ hk => hk.2) (.int .i64 ((rd_T37 l0 (rd l2 x11_1)).f0))) (fun _ hk => hk.2) (.int .i64 ((rd_T37 l0 (rd l2 x11_1)).f1))) (fun _ hk => hk.2) (.int .i64 ((rd_T37 l0 (rd l2 x11_1)).f2))) (fun _ hk => hk.2) (.int .i64 ((rd_T37 l0 (rd l2 x11_1)).f3))) (fun _ hk => hk.2) (.int .i64 ((rd_T37 l0 (rd l2 x11_1)).f4))) (fun _ h_ => h_.1))) : p := h
theorem zK119 {p : Prop} (h : p := by (with_reducible repeat (first | apply zk | apply zl | apply zm)); exact (zp (zn (p := ⟨gb204, 4, none⟩) (zn (p := ⟨gb204, 3, none⟩) (zn (p := ⟨gb204, 2, none⟩) (zn (p := ⟨gb204, 1, none⟩) (zn (p := ⟨gb204, 0, none⟩) (zv HO_201001.out BK204.out zG102) (fun _ hk => hk.2) (.int .i64 ((rd_T37 l0 (rd l2 x11_1)).f0))) (fun _ hk => hk.2) (.int .i64 ((rd_T37 l0 (rd l2 x11_1)).f1))) (fun _ hk => hk.2) (.int .i64 ((rd_T37 l0 (rd l2 x11_1)).f2))) (fun _ hk => hk.2) (.int .i64 ((rd_T37 l0 (rd l2 x11_1)).f3))) (fun _ hk => hk.2) (.int .i64 ((rd_T37 l0 (rd l2 x11_1)).f4))) (fun _ h_ => h_.1))) : p := h
theorem zK120 {p : Prop} (h : p := by (with_reducible repeat (first | apply zk | apply zl | apply zm)); exact (zp (zn (p := ⟨gb134, 4, none⟩) (zn (p := ⟨gb134, 3, none⟩) (zn (p := ⟨gb134, 2, none⟩) (zn (p := ⟨gb134, 1, none⟩) (zn (p := ⟨gb134, 0, none⟩) (zv HO_131000.out BK134.out zG102) (fun _ hk => hk.2) (.int .i64 ((rd_T37 l0 (rd l2 x22_1)).f0))) (fun _ hk => hk.2) (.int .i64 ((rd_T37 l0 (rd l2 x22_1)).f1))) (fun _ hk => hk.2) (.int .i64 ((rd_T37 l0 (rd l2 x22_1)).f2))) (fun _ hk => hk.2) (.int .i64 ((rd_T37 l0 (rd l2 x22_1)).f3))) (fun _ hk => hk.2) (.int .i64 ((rd_T37 l0 (rd l2 x22_1)).f4))) (fun _ h_ => h_.1))) : p := h
theorem zK121 {p : Prop} (h : p := by (with_reducible repeat (first | apply zk | apply zl | apply zm)); exact (zp (zn (p := ⟨gb134, 4, none⟩) (zn (p := ⟨gb134, 3, none⟩) (zn (p := ⟨gb134, 2, none⟩) (zn (p := ⟨gb134, 1, none⟩) (zn (p := ⟨gb134, 0, none⟩) (zv HO_131001.out BK134.out zG102) (fun _ hk => hk.2) (.int .i64 ((rd_T37 l0 (rd l2 x22_1)).f0))) (fun _ hk => hk.2) (.int .i64 ((rd_T37 l0 (rd l2 x22_1)).f1))) (fun _ hk => hk.2) (.int .i64 ((rd_T37 l0 (rd l2 x22_1)).f2))) (fun _ hk => hk.2) (.int .i64 ((rd_T37 l0 (rd l2 x22_1)).f3))) (fun _ hk => hk.2) (.int .i64 ((rd_T37 l0 (rd l2 x22_1)).f4))) (fun _ h_ => h_.1))) : p := h
theorem zK122 {p : Prop} (h : p := by rw [hw]; exact (by (with_reducible repeat (first | refine zc ?_ _ | refine zd ?_ | refine zb ?_ _)); refine zs ?_ NB175_179.out _; (with_reducible repeat (first | refine zc ?_ _ | refine zd ?_ | refine zb ?_ _)); refine zs ?_ NB175_179.out _; (with_reducible repeat (first | refine zc ?_ _ | refine zd ?_ | refine zb ?_ _)); refine zs ?_ NB175_179.out _; (with_reducible repeat (first | refine zc ?_ _ | refine zd ?_ | refine zb ?_ _)); refine zs ?_ NB175_179.out _; (with_reducible repeat (first | refine zc ?_ _ | refine zd ?_ | refine zb ?_ _)); exact BK175.out)) : p := h
theorem zK123 {p : Prop} (h : p := by rw [hw]; exact (by (with_reducible repeat (first | refine zc ?_ _ | refine zd ?_ | refine zb ?_ _)); refine zs ?_ NB176_179.out _; (with_reducible repeat (first | refine zc ?_ _ | refine zd ?_ | refine zb ?_ _)); refine zs ?_ NB176_179.out _; (with_reducible repeat (first | refine zc ?_ _ | refine zd ?_ | refine zb ?_ _)); refine zs ?_ NB176_179.out _; (with_reducible repeat (first | refine zc ?_ _ | refine zd ?_ | refine zb ?_ _)); refine zs ?_ NB176_179.out _; (with_reducible repeat (first | refine zc ?_ _ | refine zd ?_ | refine zb ?_ _)); exact BK176.out)) : p := h
theorem zK124 {p : Prop} (h : p := by rw [hw]; exact (by (with_reducible repeat (first | refine zc ?_ _ | refine zd ?_ | refine zb ?_ _)); refine zs ?_ NB177_179.out _; (with_reducible repeat (first | refine zc ?_ _ | refine zd ?_ | refine zb ?_ _)); refine zs ?_ NB177_179.out _; (with_reducible repeat (first | refine zc ?_ _ | refine zd ?_ | refine zb ?_ _)); refine zs ?_ NB177_179.out _; (with_reducible repeat (first | refine zc ?_ _ | refine zd ?_ | refine zb ?_ _)); refine zs ?_ NB177_179.out _; (with_reducible repeat (first | refine zc ?_ _ | refine zd ?_ | refine zb ?_ _)); exact BK177.out)) : p := h
theorem zK125 {p : Prop} (h : p := by rw [hw]; exact (by (with_reducible repeat (first | refine zc ?_ _ | refine zd ?_ | refine zb ?_ _)); refine zs ?_ NB180_179.out _; (with_reducible repeat (first | refine zc ?_ _ | refine zd ?_ | refine zb ?_ _)); refine zs ?_ NB180_179.out _; (with_reducible repeat (first | refine zc ?_ _ | refine zd ?_ | refine zb ?_ _)); refine zs ?_ NB180_179.out _; (with_reducible repeat (first | refine zc ?_ _ | refine zd ?_ | refine zb ?_ _)); refine zs ?_ NB180_179.out _; (with_reducible repeat (first | refine zc ?_ _ | refine zd ?_ | refine zb ?_ _)); exact BK180.out)) : p := h
theorem zK126 {p : Prop} (h : p := by (with_reducible repeat (first | refine zc ?_ _ | refine zd ?_ | refine zb ?_ _)); refine zs ?_ NB199_200.out _; (with_reducible repeat (first | refine zc ?_ _ | refine zd ?_ | refine zb ?_ _)); refine zs ?_ NB199_200.out _; (with_reducible repeat (first | refine zc ?_ _ | refine zd ?_ | refine zb ?_ _)); refine zs ?_ NB199_200.out _; (with_reducible repeat (first | refine zc ?_ _ | refine zd ?_ | refine zb ?_ _)); refine zs ?_ NB199_200.out _; (with_reducible repeat (first | refine zc ?_ _ | refine zd ?_ | refine zb ?_ _)); exact BK199.out) : p := h
theorem zK127 {p : Prop} (h : p := by (with_reducible repeat (first | refine zc ?_ _ | refine zd ?_ | refine zb ?_ _)); refine zs ?_ NB310_323.out _; (with_reducible repeat (first | refine zc ?_ _ | refine zd ?_ | refine zb ?_ _)); refine zs ?_ NB310_323.out _; (with_reducible repeat (first | refine zc ?_ _ | refine zd ?_ | refine zb ?_ _)); refine zs ?_ NB310_323.out _; (with_reducible repeat (first | refine zc ?_ _ | refine zd ?_ | refine zb ?_ _)); refine zs ?_ NB310_323.out _; (with_reducible repeat (first | refine zc ?_ _ | refine zd ?_ | refine zb ?_ _)); exact BK310.out) : p := h
theorem zK128 {p : Prop} (h : p := by (with_reducible repeat (first | refine zc ?_ _ | refine zd ?_ | refine zb ?_ _)); refine zs ?_ NB310_348.out _; (with_reducible repeat (first | refine zc ?_ _ | refine zd ?_ | refine zb ?_ _)); refine zs ?_ NB310_348.out _; (with_reducible repeat (first | refine zc ?_ _ | refine zd ?_ | refine zb ?_ _)); refine zs ?_ NB310_348.out _; (with_reducible repeat (first | refine zc ?_ _ | refine zd ?_ | refine zb ?_ _)); refine zs ?_ NB310_348.out _; (with_reducible repeat (first | refine zc ?_ _ | refine zd ?_ | refine zb ?_ _)); exact BK310.out) : p := h
theorem zK129 {p : Prop} (h : p := by (with_reducible repeat (first | refine zc ?_ _ | refine zd ?_ | refine zb ?_ _)); refine zs ?_ NB323_348.out _; (with_reducible repeat (first | refine zc ?_ _ | refine zd ?_ | refine zb ?_ _)); refine zs ?_ NB323_348.out _; (with_reducible repeat (first | refine zc ?_ _ | refine zd ?_ | refine zb ?_ _)); refine zs ?_ NB323_348.out _; (with_reducible repeat (first | refine zc ?_ _ | refine zd ?_ | refine zb ?_ _)); refine zs ?_ NB323_348.out _; (with_reducible repeat (first | refine zc ?_ _ | refine zd ?_ | refine zb ?_ _)); exact BK323.out) : p := h
theorem zK130 {p : Prop} (h : p := by (with_reducible repeat (first | refine zc ?_ _ | refine zd ?_ | refine zb ?_ _)); refine zs ?_ NB3_149.out _; (with_reducible repeat (first | refine zc ?_ _ | refine zd ?_ | refine zb ?_ _)); refine zs ?_ NB3_149.out _; (with_reducible repeat (first | refine zc ?_ _ | refine zd ?_ | refine zb ?_ _)); refine zs ?_ NB3_149.out _; (with_reducible repeat (first | refine zc ?_ _ | refine zd ?_ | refine zb ?_ _)); refine zs ?_ NB3_149.out _; (with_reducible repeat (first | refine zc ?_ _ | refine zd ?_ | refine zb ?_ _)); exact BK3.out) : p := h
theorem zK131 {p : Prop} (h : p := by (with_reducible repeat (first | refine zc ?_ _ | refine zd ?_ | refine zb ?_ _)); refine zs ?_ NB4_149.out _; (with_reducible repeat (first | refine zc ?_ _ | refine zd ?_ | refine zb ?_ _)); refine zs ?_ NB4_149.out _; (with_reducible repeat (first | refine zc ?_ _ | refine zd ?_ | refine zb ?_ _)); refine zs ?_ NB4_149.out _; (with_reducible repeat (first | refine zc ?_ _ | refine zd ?_ | refine zb ?_ _)); refine zs ?_ NB4_149.out _; (with_reducible repeat (first | refine zc ?_ _ | refine zd ?_ | refine zb ?_ _)); exact BK4.out) : p := h
theorem zK132 {p : Prop} (h : p := by (with_reducible repeat (first | apply zk | apply zl | apply zm)); exact (zp (zn (p := ⟨gb348, 3, none⟩) (zn (p := ⟨gb348, 2, none⟩) (zn (p := ⟨gb348, 1, none⟩) (zn (p := ⟨gb348, 0, none⟩) (zv HO_311000.out BK348.out zG102) (fun _ hk => hk.2) (.slice Ao78 t339.length co78)) (fun _ hk => hk.2) (.slice Ao82 t342.length co82)) (fun _ hk => hk.2) (.int .i64 t345)) (fun _ hk => hk.2) (.int .i64 t346)) (fun _ h_ => h_.1))) : p := h
theorem zK133 {p : Prop} (h : p := by (with_reducible repeat (first | apply zk | apply zl | apply zm)); exact (zp (zn (p := ⟨gb348, 3, none⟩) (zn (p := ⟨gb348, 2, none⟩) (zn (p := ⟨gb348, 1, none⟩) (zn (p := ⟨gb348, 0, none⟩) (zv HO_311001.out BK348.out zG102) (fun _ hk => hk.2) (.slice Ao78 t339.length co78)) (fun _ hk => hk.2) (.slice Ao82 t342.length co82)) (fun _ hk => hk.2) (.int .i64 t345)) (fun _ hk => hk.2) (.int .i64 t346)) (fun _ h_ => h_.1))) : p := h
theorem zK134 {p : Prop} (h : p := by (with_reducible repeat (first | apply zk | apply zl | apply zm)); exact (zp (zn (p := ⟨gb348, 3, none⟩) (zn (p := ⟨gb348, 2, none⟩) (zn (p := ⟨gb348, 1, none⟩) (zn (p := ⟨gb348, 0, none⟩) (zv HO_324000.out BK348.out zG102) (fun _ hk => hk.2) (.slice Ao78 t339.length co78)) (fun _ hk => hk.2) (.slice Ao82 t342.length co82)) (fun _ hk => hk.2) (.int .i64 t345)) (fun _ hk => hk.2) (.int .i64 t346)) (fun _ h_ => h_.1))) : p := h
theorem zK135 {p : Prop} (h : p := by (with_reducible repeat (first | apply zk | apply zl | apply zm)); exact (zp (zn (p := ⟨gb348, 3, none⟩) (zn (p := ⟨gb348, 2, none⟩) (zn (p := ⟨gb348, 1, none⟩) (zn (p := ⟨gb348, 0, none⟩) (zv HO_324001.out BK348.out zG102) (fun _ hk => hk.2) (.slice Ao78 t339.length co78)) (fun _ hk => hk.2) (.slice Ao82 t342.length co82)) (fun _ hk => hk.2) (.int .i64 t345)) (fun _ hk => hk.2) (.int .i64 t346)) (fun _ h_ => h_.1))) : p := h
theorem zK136 {p : Prop} (h : p := by (with_reducible repeat (first | apply zk | apply zl | apply zm)); exact (zp (zn (p := ⟨gb310, 3, none⟩) (zn (p := ⟨gb310, 2, none⟩) (zn (p := ⟨gb310, 1, none⟩) (zn (p := ⟨gb310, 0, none⟩) (zv HO300.out BK310.out zG102) (fun _ hk => hk.2) (.slice Ao14 t301.length co14)) (fun _ hk => hk.2) (.slice Ao16 t304.length co16)) (fun _ hk => hk.2) (.int .i64 t307)) (fun _ hk => hk.2) (.int .i64 t308)) (fun _ h_ => h_.1))) : p := h
theorem zK137 {p : Prop} (h : p := by (with_reducible repeat (first | apply zk | apply zl | apply zm)); exact (zp (zn (p := ⟨gb323, 3, none⟩) (zn (p := ⟨gb323, 2, none⟩) (zn (p := ⟨gb323, 1, none⟩) (zn (p := ⟨gb323, 0, none⟩) (zv HO300.out BK323.out zG102) (fun _ hk => hk.2) (.slice Ao21 t314.length co21)) (fun _ hk => hk.2) (.slice Ao24 t317.length co24)) (fun _ hk => hk.2) (.int .i64 t320)) (fun _ hk => hk.2) (.int .i64 t321)) (fun _ h_ => h_.1))) : p := h
theorem zK138 {p : Prop} (h : p := by (with_reducible repeat (first | apply zk | apply zl | apply zm)); exact (zp (zn (p := ⟨gb323, 3, none⟩) (zn (p := ⟨gb323, 2, none⟩) (zn (p := ⟨gb323, 1, none⟩) (zn (p := ⟨gb323, 0, none⟩) (zv HO303.out BK323.out zG102) (fun _ hk => hk.2) (.slice Ao21 t314.length co21)) (fun _ hk => hk.2) (.slice Ao24 t317.length co24)) (fun _ hk => hk.2) (.int .i64 t320)) (fun _ hk => hk.2) (.int .i64 t321)) (fun _ h_ => h_.1))) : p := h
theorem zK139 {p : Prop} (h : p := by (with_reducible repeat (first | apply zk | apply zl | apply zm)); exact (zp (zn (p := ⟨gb323, 3, none⟩) (zn (p := ⟨gb323, 2, none⟩) (zn (p := ⟨gb323, 1, none⟩) (zn (p := ⟨gb323, 0, none⟩) (zv HO306.out BK323.out zG102) (fun _ hk => hk.2) (.slice Ao21 t314.length co21)) (fun _ hk => hk.2) (.slice Ao24 t317.length co24)) (fun _ hk => hk.2) (.int .i64 t320)) (fun _ hk => hk.2) (.int .i64 t321)) (fun _ h_ => h_.1))) : p := h
theorem zK140 {p : Prop} (h : p := by (with_reducible repeat (first | apply zk | apply zl | apply zm)); exact (zp (zn (p := ⟨gb323, 3, none⟩) (zn (p := ⟨gb323, 2, none⟩) (zn (p := ⟨gb323, 1, none⟩) (zn (p := ⟨gb323, 0, none⟩) (zv HO313.out BK323.out zG102) (fun _ hk => hk.2) (.slice Ao21 t314.length co21)) (fun _ hk => hk.2) (.slice Ao24 t317.length co24)) (fun _ hk => hk.2) (.int .i64 t320)) (fun _ hk => hk.2) (.int .i64 t321)) (fun _ h_ => h_.1))) : p := h
theorem zK141 {p : Prop} (h : p := by (with_reducible repeat (first | apply zk | apply zl | apply zm)); exact (zp (zn (p := ⟨gb323, 3, none⟩) (zn (p := ⟨gb323, 2, none⟩) (zn (p := ⟨gb323, 1, none⟩) (zn (p := ⟨gb323, 0, none⟩) (zv HO316.out BK323.out zG102) (fun _ hk => hk.2) (.slice Ao21 t314.length co21)) (fun _ hk => hk.2) (.slice Ao24 t317.length co24)) (fun _ hk => hk.2) (.int .i64 t320)) (fun _ hk => hk.2) (.int .i64 t321)) (fun _ h_ => h_.1))) : p := h
theorem zK142 {p : Prop} (h : p := by (with_reducible repeat (first | apply zk | apply zl | apply zm)); exact (zp (zn (p := ⟨gb323, 3, none⟩) (zn (p := ⟨gb323, 2, none⟩) (zn (p := ⟨gb323, 1, none⟩) (zn (p := ⟨gb323, 0, none⟩) (zv HO319.out BK323.out zG102) (fun _ hk => hk.2) (.slice Ao21 t314.length co21)) (fun _ hk => hk.2) (.slice Ao24 t317.length co24)) (fun _ hk => hk.2) (.int .i64 t320)) (fun _ hk => hk.2) (.int .i64 t321)) (fun _ h_ => h_.1))) : p := h
theorem zK143 {p : Prop} (h : p := by (with_reducible repeat (first | apply zk | apply zl | apply zm)); exact (zp (zn (p := ⟨gb348, 3, none⟩) (zn (p := ⟨gb348, 2, none⟩) (zn (p := ⟨gb348, 1, none⟩) (zn (p := ⟨gb348, 0, none⟩) (zv HO338.out BK348.out zG102) (fun _ hk => hk.2) (.slice Ao78 t339.length co78)) (fun _ hk => hk.2) (.slice Ao82 t342.length co82)) (fun _ hk => hk.2) (.int .i64 t345)) (fun _ hk => hk.2) (.int .i64 t346)) (fun _ h_ => h_.1))) : p := h
theorem zK144 {p : Prop} (h : p := by (with_reducible repeat (first | apply zk | apply zl | apply zm)); exact (zp (zn (p := ⟨gb348, 3, none⟩) (zn (p := ⟨gb348, 2, none⟩) (zn (p := ⟨gb348, 1, none⟩) (zn (p := ⟨gb348, 0, none⟩) (zv HO341.out BK348.out zG102) (fun _ hk => hk.2) (.slice Ao78 t339.length co78)) (fun _ hk => hk.2) (.slice Ao82 t342.length co82)) (fun _ hk => hk.2) (.int .i64 t345)) (fun _ hk => hk.2) (.int .i64 t346)) (fun _ h_ => h_.1))) : p := h
theorem zK145 {p : Prop} (h : p := by (with_reducible repeat (first | apply zk | apply zl | apply zm)); exact (zp (zn (p := ⟨gb348, 3, none⟩) (zn (p := ⟨gb348, 2, none⟩) (zn (p := ⟨gb348, 1, none⟩) (zn (p := ⟨gb348, 0, none⟩) (zv HO344.out BK348.out zG102) (fun _ hk => hk.2) (.slice Ao78 t339.length co78)) (fun _ hk => hk.2) (.slice Ao82 t342.length co82)) (fun _ hk => hk.2) (.int .i64 t345)) (fun _ hk => hk.2) (.int .i64 t346)) (fun _ h_ => h_.1))) : p := h
theorem zK146 {p : Prop} (h : p := by first | exact HK.out.1 | exact (show Kept w _ (fun k_ => ((P6_0_ k_ ∨ P6_1_ k_) ∨ k_ = gi5) ∨ k_ = gi6) from by repeat (first | (with_reducible first | exact HK.out | apply Kept.alloc | apply Kept.drewN | apply Kept.drew | refine Kept.setCell ?_ (.inl (Or.inl (Or.inr rfl))) _ | refine Kept.setCell ?_ (.inl (Or.inr rfl)) _) | exact HK.out)).1) : p := h
theorem zK147 {p : Prop} (h : p := by (try simp only [List.map_toArray, List.map_cons, List.map_nil]); first | done | (rw [show t333.length = t314.length from (Kd.R_reads' HO_324000.out).1.symm, show t334.length = t317.length from (Kd.R_reads' HO_324001.out).1.symm] <;> rfl) | rfl | (simp only [List.length_drop, List.length_take]; rfl)) : p := h
theorem zK148 {p : Prop} (h : p := by rw [hw]; exact (by repeat (first | (with_reducible first | exact HB.out | apply zj | apply ze | apply zi | refine zf ?_ GE175.out | refine zf ?_ GE176.out | refine zf ?_ GE177.out | refine zf ?_ GE179.out | refine zf ?_ GE180.out) | exact HB.out))) : p := h
theorem zK149 {p : Prop} (h : p := by rw [hw]; exact (by (with_reducible repeat (first | refine zc ?_ _ | refine zd ?_ | refine zb ?_ _)); refine zw (cs := #[.bool false]) ?_ 0 _ rfl; (with_reducible repeat (first | refine zc ?_ _ | refine zd ?_ | refine zb ?_ _)); exact BK180.out)) : p := h
theorem zK150 {p : Prop} (h : p := by rw [hw]; exact (by (with_reducible repeat (first | refine zc ?_ _ | refine zd ?_ | refine zb ?_ _)); refine zs ?_ NB175_180.out _; (with_reducible repeat (first | refine zc ?_ _ | refine zd ?_ | refine zb ?_ _)); exact BK175.out)) : p := h
theorem zK151 {p : Prop} (h : p := by rw [hw]; exact (by (with_reducible repeat (first | refine zc ?_ _ | refine zd ?_ | refine zb ?_ _)); refine zs ?_ NB176_180.out _; (with_reducible repeat (first | refine zc ?_ _ | refine zd ?_ | refine zb ?_ _)); exact BK176.out)) : p := h
theorem zK152 {p : Prop} (h : p := by rw [hw]; exact (by (with_reducible repeat (first | refine zc ?_ _ | refine zd ?_ | refine zb ?_ _)); refine zs ?_ NB177_180.out _; (with_reducible repeat (first | refine zc ?_ _ | refine zd ?_ | refine zb ?_ _)); exact BK177.out)) : p := h
theorem zK153 {p : Prop} (h : p := by rw [hw]; exact (by (with_reducible repeat (first | refine zc ?_ _ | refine zd ?_ | refine zb ?_ _)); refine zs ?_ NB179_180.out _; (with_reducible repeat (first | refine zc ?_ _ | refine zd ?_ | refine zb ?_ _)); exact BK179.out)) : p := h
theorem zK154 {p : Prop} (h : p := by repeat (first | (with_reducible first | exact HB.out | apply zj | apply ze | apply zi | refine zf ?_ GE199.out | refine zf ?_ GE200.out | refine zf ?_ GE201.out | refine zf ?_ GE204.out) | exact HB.out)) : p := h
theorem zK155 {p : Prop} (h : p := by repeat (first | (with_reducible first | exact HB.out | apply zj | apply ze | apply zi | refine zf ?_ GE126.out | refine zf ?_ GE130.out | refine zf ?_ GE131.out | refine zf ?_ GE134.out) | exact HB.out)) : p := h
theorem zK156 {p : Prop} (h : p := by repeat (first | (with_reducible first | exact HB.out | apply zj | apply ze | apply zi | refine zf ?_ GE175.out | refine zf ?_ GE176.out | refine zf ?_ GE177.out | refine zf ?_ GE179.out) | exact HB.out)) : p := h
theorem zK157 {p : Prop} (h : p := by repeat (first | (with_reducible first | exact HB.out | apply zj | apply ze | apply zi | refine zf ?_ GE3.out | refine zf ?_ GE4.out | refine zf ?_ GE5.out | refine zf ?_ GE6.out) | exact HB.out)) : p := h
theorem zK158 {p : Prop} (h : p := by repeat (first | (with_reducible first | exact HB.out | apply zj | apply ze | apply zi | refine zf ?_ GE199.out | refine zf ?_ GE200.out | refine zf ?_ GE201.out) | exact HB.out)) : p := h
theorem zK159 {p : Prop} (h : p := by repeat (first | (with_reducible first | exact HB.out | apply zj | apply ze | apply zi | refine zf ?_ GE310.out | refine zf ?_ GE323.out | refine zf ?_ GE348.out) | exact HB.out)) : p := h
theorem zK160 {p : Prop} (h : p := by repeat (first | (with_reducible first | exact HB.out | apply zj | apply ze | apply zi | refine zf ?_ GE126.out | refine zf ?_ GE130.out | refine zf ?_ GE131.out) | exact HB.out)) : p := h
theorem zK161 {p : Prop} (h : p := by repeat (first | (with_reducible first | exact HB.out | apply zj | apply ze | apply zi | refine zf ?_ GE175.out | refine zf ?_ GE176.out | refine zf ?_ GE177.out) | exact HB.out)) : p := h
theorem zK162 {p : Prop} (h : p := by repeat (first | (with_reducible first | exact HK.out | apply Kept.alloc | apply Kept.drewN | apply Kept.drew | refine Kept.setCell ?_ (.inr GW288.out) _) | exact HK.out)) : p := h
theorem zK163 {p : Prop} (h : p := by repeat (first | (with_reducible first | exact HB.out | apply zj | apply ze | apply zi | refine zf ?_ GE199.out | refine zf ?_ GE200.out) | exact HB.out)) : p := h
theorem zK164 {p : Prop} (h : p := by repeat (first | (with_reducible first | exact HB.out | apply zj | apply ze | apply zi | refine zf ?_ GE243.out | refine zf ?_ GE245.out) | exact HB.out)) : p := h
theorem zK165 {p : Prop} (h : p := by repeat (first | (with_reducible first | exact HB.out | apply zj | apply ze | apply zi | refine zf ?_ GE258.out | refine zf ?_ GE259.out) | exact HB.out)) : p := h
theorem zK166 {p : Prop} (h : p := by repeat (first | (with_reducible first | exact HB.out | apply zj | apply ze | apply zi | refine zf ?_ GE122.out | refine zf ?_ GE123.out) | exact HB.out)) : p := h
theorem zK167 {p : Prop} (h : p := by repeat (first | (with_reducible first | exact HB.out | apply zj | apply ze | apply zi | refine zf ?_ GE126.out | refine zf ?_ GE130.out) | exact HB.out)) : p := h
theorem zK168 {p : Prop} (h : p := by repeat (first | (with_reducible first | exact HB.out | apply zj | apply ze | apply zi | refine zf ?_ GE175.out | refine zf ?_ GE176.out) | exact HB.out)) : p := h
theorem zK169 {p : Prop} (h : p := by repeat (first | (with_reducible first | exact HB.out | apply zj | apply ze | apply zi | refine zf ?_ GE197.out) | exact HB.out)) : p := h
theorem zK170 {p : Prop} (h : p := by repeat (first | (with_reducible first | exact HB.out | apply zj | apply ze | apply zi | refine zf ?_ GE199.out) | exact HB.out)) : p := h
theorem zK171 {p : Prop} (h : p := by repeat (first | (with_reducible first | exact HB.out | apply zj | apply ze | apply zi | refine zf ?_ GE243.out) | exact HB.out)) : p := h
theorem zK172 {p : Prop} (h : p := by repeat (first | (with_reducible first | exact HB.out | apply zj | apply ze | apply zi | refine zf ?_ GE258.out) | exact HB.out)) : p := h
theorem zK173 {p : Prop} (h : p := by repeat (first | (with_reducible first | exact HB.out | apply zj | apply ze | apply zi | refine zf ?_ GE122.out) | exact HB.out)) : p := h
theorem zK174 {p : Prop} (h : p := by repeat (first | (with_reducible first | exact HB.out | apply zj | apply ze | apply zi | refine zf ?_ GE310.out) | exact HB.out)) : p := h
theorem zK175 {p : Prop} (h : p := by repeat (first | (with_reducible first | exact HB.out | apply zj | apply ze | apply zi | refine zf ?_ GE126.out) | exact HB.out)) : p := h
theorem zK176 {p : Prop} (h : p := by repeat (first | (with_reducible first | exact HB.out | apply zj | apply ze | apply zi | refine zf ?_ GE175.out) | exact HB.out)) : p := h
theorem zK177 {p : Prop} (h : p := by repeat (first | (with_reducible first | exact HK.out | apply Kept.alloc | apply Kept.drewN | apply Kept.drew) | exact HK.out)) : p := h
theorem zK178 {p : Prop} (h : p := by (with_reducible repeat (first | refine zc ?_ _ | refine zd ?_ | refine zb ?_ _)); exact BK197.out) : p := h
theorem zK179 {p : Prop} (h : p := by (with_reducible repeat (first | refine zc ?_ _ | refine zd ?_ | refine zb ?_ _)); exact BK199.out) : p := h
theorem zK180 {p : Prop} (h : p := by (with_reducible repeat (first | refine zc ?_ _ | refine zd ?_ | refine zb ?_ _)); exact BK200.out) : p := h
theorem zK181 {p : Prop} (h : p := by (with_reducible repeat (first | refine zc ?_ _ | refine zd ?_ | refine zb ?_ _)); exact BK201.out) : p := h
theorem zK182 {p : Prop} (h : p := by (with_reducible repeat (first | refine zc ?_ _ | refine zd ?_ | refine zb ?_ _)); exact BK258.out) : p := h
theorem zK183 {p : Prop} (h : p := by (with_reducible repeat (first | refine zc ?_ _ | refine zd ?_ | refine zb ?_ _)); exact BK259.out) : p := h
theorem zK184 {p : Prop} (h : p := by (with_reducible repeat (first | refine zc ?_ _ | refine zd ?_ | refine zb ?_ _)); exact BK122.out) : p := h
theorem zK185 {p : Prop} (h : p := by (with_reducible repeat (first | refine zc ?_ _ | refine zd ?_ | refine zb ?_ _)); exact BK348.out) : p := h
theorem zK186 {p : Prop} (h : p := by (with_reducible repeat (first | refine zc ?_ _ | refine zd ?_ | refine zb ?_ _)); exact BK130.out) : p := h
theorem zK187 {p : Prop} (h : p := by (with_reducible repeat (first | refine zc ?_ _ | refine zd ?_ | refine zb ?_ _)); exact BK131.out) : p := h
theorem zK188 {p : Prop} (h : p := by (with_reducible repeat (first | refine zc ?_ _ | refine zd ?_ | refine zb ?_ _)); exact BK179.out) : p := h
theorem zK189 {p : Prop} (h : p := by (with_reducible repeat (first | refine zc ?_ _ | refine zd ?_ | refine zb ?_ _)); exact BK5.out) : p := h
theorem zK190 {p : Prop} (h : p := by (with_reducible repeat (first | refine zc ?_ _ | refine zd ?_ | refine zb ?_ _)); exact BK6.out) : p := h
theorem zK191 {p : Prop} (h : p := by simp only [putAll, Act.put, List.setIfInBounds_toArray, List.set_cons_zero, List.set_cons_succ]) : p := h
theorem zK192 {p : Prop} (h : p := by (with_reducible repeat (first | apply zk | apply zl | apply zm)); exact HO_201000.out) : p := h
theorem zK193 {p : Prop} (h : p := by (with_reducible repeat (first | apply zk | apply zl | apply zm)); exact HO_201001.out) : p := h
theorem zK194 {p : Prop} (h : p := by (with_reducible repeat (first | apply zk | apply zl | apply zm)); exact HO_349000.out) : p := h
theorem zK195 {p : Prop} (h : p := by (with_reducible repeat (first | apply zk | apply zl | apply zm)); exact HO_349001.out) : p := h
theorem zK196 {p : Prop} (h : p := by (with_reducible repeat (first | apply zk | apply zl | apply zm)); exact HO_131000.out) : p := h
theorem zK197 {p : Prop} (h : p := by (with_reducible repeat (first | apply zk | apply zl | apply zm)); exact HO_131001.out) : p := h
theorem zK198 {p : Prop} (h : p := by (with_reducible repeat (first | apply zk | apply zl | apply zm)); exact HO_224000.out) : p := h
theorem zK199 {p : Prop} (h : p := by (with_reducible repeat (first | apply zk | apply zl | apply zm)); exact HO_224001.out) : p := h
theorem zK200 {p : Prop} (h : p := by (with_reducible repeat (first | apply zk | apply zl | apply zm)); exact HO_7000.out) : p := h
theorem zK201 {p : Prop} (h : p := by (with_reducible repeat (first | apply zk | apply zl | apply zm)); exact HO_7001.out) : p := h
theorem zK202 {p : Prop} (h : p := by (with_reducible repeat (first | apply zk | apply zl | apply zm)); exact HO_1002.out) : p := h
theorem zK203 {p : Prop} (h : p := by (with_reducible repeat (first | apply zk | apply zl | apply zm)); exact HO_1003.out) : p := h
theorem zK204 {p : Prop} (h : p := by (with_reducible repeat (first | apply zk | apply zl | apply zm)); exact HO248.out) : p := h
theorem zK205 {p : Prop} (h : p := by (with_reducible repeat (first | apply zk | apply zl | apply zm)); exact HO300.out) : p := h
theorem zK206 {p : Prop} (h : p := by (with_reducible repeat (first | apply zk | apply zl | apply zm)); exact HO303.out) : p := h
theorem zK207 {p : Prop} (h : p := by (with_reducible repeat (first | apply zk | apply zl | apply zm)); exact HO306.out) : p := h
theorem zK208 {p : Prop} (h : p := by (with_reducible repeat (first | apply zk | apply zl | apply zm)); exact HO327.out) : p := h
theorem zK209 {p : Prop} (h : p := by (with_reducible repeat (first | apply zk | apply zl | apply zm)); exact HO142.out) : p := h
theorem zK210 {p : Prop} (h : p := by (with_reducible repeat (first | apply zk | apply zl | apply zm)); exact HO145.out) : p := h
theorem zK211 {p : Prop} (h : p := by (with_reducible repeat (first | apply zk | apply zl | apply zm)); exact HO216.out) : p := h
theorem zK212 {p : Prop} (h : p := by (with_reducible repeat (first | apply zk | apply zl | apply zm)); exact HO219.out) : p := h
theorem zK213 {p : Prop} (h : p := by (with_reducible repeat (first | apply zk | apply zl | apply zm)); exact HO_8.out) : p := h
theorem zK214 {p : Prop} (h : p := by (with_reducible repeat (first | apply zk | apply zl | apply zm)); exact HO_0.out) : p := h
theorem zK215 {p : Prop} (h : p := by simp [Value.ownBlock]) : p := h
theorem zK216 {p : Prop} (h : p := by rw [← e_]; exact hs_) : p := h
end Go.Proofs.Ytojncbpeeboooaa.T
