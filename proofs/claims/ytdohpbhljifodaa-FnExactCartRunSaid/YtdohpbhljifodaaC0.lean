-- squeezed
-- made by pp.py (wip/tools) out of the translation; Lean checks it
import Derived.Test.YtdohpbhljifodaaProg
import Derived.Below
import Derived.Deep.Draws
import Derived.Deep.AppendLies
import Derived.Maps.AppendAt
import Derived.OwnWalk
import Derived.Laws.BytesArg
import Derived.Laws.MakeOwn
import Derived.Laws.OwnMore
import Derived.Deep.OwnRows
import Derived.Tactics
import Derived.Lib.ConvBytes
import Derived.Laws.Slices
import Derived.WalkKit
import Derived.KernelRfl
import Derived.RowKit3
import Derived.Deep.LoopGhost
import Derived.Deep.QuietTactic
import Derived.BigQuiet
import Derived.WideLaws
import Derived.Deep.DeepCutAuto
import Derived.Deep.CutBlock
import Derived.Deep.RegionHeld3
import Derived.Laws.Rows
import Derived.Lib.AppendStr
import Derived.ArgAppend
import Derived.Laws.IdiomCopy
import Derived.OrdersHeld
import Derived.Laws.BitsLemmas
import Derived.RowKit
import Derived.Test.YtdohpbhljifodaaFloat
import Derived.Test.YtdohpbhljifodaaWWords
import Derived.Test.YtdohpbhljifodaaWLast
import Derived.Test.YtdohpbhljifodaaWTab
import Derived.Test.YtdohpbhljifodaaWFour
import Derived.Test.YtdohpbhljifodaaWQPut
import Derived.Test.YtdohpbhljifodaaWApart
import Derived.Test.YtdohpbhljifodaaWArr
import Derived.Test.YtdohpbhljifodaaWZeros
import Derived.Test.YtdohpbhljifodaaWFoot
import Derived.Test.YtdohpbhljifodaaWKept
import Derived.Test.YtdohpbhljifodaaWShare
import Derived.Test.YtdohpbhljifodaaWN
import Derived.Test.YtdohpbhljifodaaWFootNe
import Derived.Test.YtdohpbhljifodaaWAt
import Derived.Test.YtdohpbhljifodaaWEqStruct
import Derived.Test.YtdohpbhljifodaaWRepsOne
import Derived.Test.YtdohpbhljifodaaWInv
import Derived.Test.YtdohpbhljifodaaWInvWords
import Derived.Test.YtdohpbhljifodaaWGuard
import Derived.Test.YtdohpbhljifodaaWNEv
import Derived.Test.YtdohpbhljifodaaWMore
namespace Go.Proofs.Ytdohpbhljifodaa.C
open Go.RowKit Go.Proofs.YtdohpbhljifodaaW.PrintWords Go.Proofs.YtdohpbhljifodaaW.PrintLast Go.Proofs.YtdohpbhljifodaaW.PrintMore
attribute [local go_sem] max2_int min2_int max_two min_two max_three min_three max_four min_four   -- for this text's walks alone
set_option linter.unusedVariables false
set_option linter.unusedSimpArgs false




def errW : Option Int → Value
 | none => .nilIface
 | some c => .iface 0 (.int .i64 c)
theorem errW_none : errW none = .nilIface := rfl
theorem errW_some (c : Int) : errW (some c) = .iface 0 (.int .i64 c) := rfl

theorem info34 : (Try.prog.info? 34).map (fun i => (i.zero, i.size, i.bytes)) = some (some (.agg #[(.int .i64 0), (.int .i64 0)]), 2, 16) := by kernel_rfl
theorem info36 : (Try.prog.info? 36).map (fun i => (i.zero, i.size, i.bytes)) = some (some (.agg #[(.int .i64 0), (.int .i64 0), (.int .i64 0)]), 3, 24) := by kernel_rfl
theorem info54 : (Try.prog.info? 54).map (fun i => (i.zero, i.size, i.bytes)) = some (some (.agg #[(.int .i64 0), (.int .i64 0), (.int .i64 0), (.int .i64 0)]), 4, 32) := by kernel_rfl
-- the values' own types
/-! #### struct type 54 -/
structure S54 where
 f0 : Int
 f1 : Int
 f2 : Int
 f3 : Int
def z54 : S54 := ⟨(0 : Int), (0 : Int), (0 : Int), (0 : Int)⟩
def k54 : Kd S54 := Kd.iso (Kd.pair (Kd.int .i64) (Kd.pair (Kd.int .i64) (Kd.pair (Kd.int .i64) (Kd.int .i64)))) (fun x : S54 => (x.f0, x.f1, x.f2, x.f3))
theorem k54_open {w : World} {x : S54} {cs : List Value} (h : k54.K w x cs) : cs = [.int .i64 x.f0, .int .i64 x.f1, .int .i64 x.f2, .int .i64 x.f3] := by
 obtain ⟨_, _, rfl, rfl, ⟨_, _, rfl, rfl, ⟨_, _, rfl, rfl, rfl⟩⟩⟩ := h
 exact rfl
theorem k54_openM {w : World} {base : Nat} {ok : Nat → Prop} {x : S54} {cs : List Value} (h : k54.M w base ok x cs) : cs = [.int .i64 x.f0, .int .i64 x.f1, .int .i64 x.f2, .int .i64 x.f3] := by
 obtain ⟨_, _, rfl, rfl, ⟨_, _, rfl, rfl, ⟨_, _, rfl, rfl, rfl⟩⟩⟩ := h
 exact rfl
theorem k54_mk (w : World) (x : S54)  : k54.K w x [.int .i64 x.f0, .int .i64 x.f1, .int .i64 x.f2, .int .i64 x.f3] := ⟨[.int .i64 x.f0], [.int .i64 x.f1, .int .i64 x.f2, .int .i64 x.f3], rfl, rfl, ⟨[.int .i64 x.f1], [.int .i64 x.f2, .int .i64 x.f3], rfl, rfl, ⟨[.int .i64 x.f2], [.int .i64 x.f3], rfl, rfl, rfl⟩⟩⟩
theorem k54_mkM (w : World) (base : Nat) (ok : Nat → Prop) (x : S54)  : k54.M w base ok x [.int .i64 x.f0, .int .i64 x.f1, .int .i64 x.f2, .int .i64 x.f3] := ⟨[.int .i64 x.f0], [.int .i64 x.f1, .int .i64 x.f2, .int .i64 x.f3], rfl, rfl, ⟨[.int .i64 x.f1], [.int .i64 x.f2, .int .i64 x.f3], rfl, rfl, ⟨[.int .i64 x.f2], [.int .i64 x.f3], rfl, rfl, rfl⟩⟩⟩
def rd_T54 (xs : List S54) (i : Int) : S54 := xs.getD i.toNat z54
theorem at_T54 {w : World} {A : Option Addr} {n : Nat} {xs : List S54} (h : Kd.C k54 w A n xs) (i : Int) (h0 : 0 ≤ i) (h1 : i < n) : ∃ ad , A = some ad ∧ w.cell? (ad.add (i.toNat * 4)) = some (.int .i64 (rd_T54 xs i).f0) ∧ w.cell? ⟨(ad.add (i.toNat * 4)).block, (ad.add (i.toNat * 4)).off + 1, none⟩ = some (.int .i64 (rd_T54 xs i).f1) ∧ w.cell? ⟨(ad.add (i.toNat * 4)).block, (ad.add (i.toNat * 4)).off + 2, none⟩ = some (.int .i64 (rd_T54 xs i).f2) ∧ w.cell? ⟨(ad.add (i.toNat * 4)).block, (ad.add (i.toNat * 4)).off + 3, none⟩ = some (.int .i64 (rd_T54 xs i).f3) := by
 obtain ⟨ad, c, e, _, hK, hc0⟩ := Kd.C_get h z54 i h0 h1
 have hc : ∀ j u, c[j]? = some u → w.cell? (ad.add (i.toNat * 4 + j)) = some u := hc0
 obtain rfl := k54_open hK
 exact ⟨ad, e, hc 0 _ rfl, by rw [← add_field _ _ 1 (by omega)]; exact hc 1 _ rfl, by rw [← add_field _ _ 2 (by omega)]; exact hc 2 _ rfl, by rw [← add_field _ _ 3 (by omega)]; exact hc 3 _ rfl⟩

/-! #### struct type 36 -/
structure S36 where
 f0 : Int
 f1 : Int
 f2 : Int
def z36 : S36 := ⟨(0 : Int), (0 : Int), (0 : Int)⟩
def k36 : Kd S36 := Kd.iso (Kd.pair (Kd.int .i64) (Kd.pair (Kd.int .i64) (Kd.int .i64))) (fun x : S36 => (x.f0, x.f1, x.f2))
theorem k36_open {w : World} {x : S36} {cs : List Value} (h : k36.K w x cs) : cs = [.int .i64 x.f0, .int .i64 x.f1, .int .i64 x.f2] := by
 obtain ⟨_, _, rfl, rfl, ⟨_, _, rfl, rfl, rfl⟩⟩ := h
 exact rfl
theorem k36_openM {w : World} {base : Nat} {ok : Nat → Prop} {x : S36} {cs : List Value} (h : k36.M w base ok x cs) : cs = [.int .i64 x.f0, .int .i64 x.f1, .int .i64 x.f2] := by
 obtain ⟨_, _, rfl, rfl, ⟨_, _, rfl, rfl, rfl⟩⟩ := h
 exact rfl
theorem k36_mk (w : World) (x : S36)  : k36.K w x [.int .i64 x.f0, .int .i64 x.f1, .int .i64 x.f2] := ⟨[.int .i64 x.f0], [.int .i64 x.f1, .int .i64 x.f2], rfl, rfl, ⟨[.int .i64 x.f1], [.int .i64 x.f2], rfl, rfl, rfl⟩⟩
theorem k36_mkM (w : World) (base : Nat) (ok : Nat → Prop) (x : S36)  : k36.M w base ok x [.int .i64 x.f0, .int .i64 x.f1, .int .i64 x.f2] := ⟨[.int .i64 x.f0], [.int .i64 x.f1, .int .i64 x.f2], rfl, rfl, ⟨[.int .i64 x.f1], [.int .i64 x.f2], rfl, rfl, rfl⟩⟩
def rd_T36 (xs : List S36) (i : Int) : S36 := xs.getD i.toNat z36
theorem at_T36 {w : World} {A : Option Addr} {n : Nat} {xs : List S36} (h : Kd.C k36 w A n xs) (i : Int) (h0 : 0 ≤ i) (h1 : i < n) : ∃ ad , A = some ad ∧ w.cell? (ad.add (i.toNat * 3)) = some (.int .i64 (rd_T36 xs i).f0) ∧ w.cell? ⟨(ad.add (i.toNat * 3)).block, (ad.add (i.toNat * 3)).off + 1, none⟩ = some (.int .i64 (rd_T36 xs i).f1) ∧ w.cell? ⟨(ad.add (i.toNat * 3)).block, (ad.add (i.toNat * 3)).off + 2, none⟩ = some (.int .i64 (rd_T36 xs i).f2) := by
 obtain ⟨ad, c, e, _, hK, hc0⟩ := Kd.C_get h z36 i h0 h1
 have hc : ∀ j u, c[j]? = some u → w.cell? (ad.add (i.toNat * 3 + j)) = some u := hc0
 obtain rfl := k36_open hK
 exact ⟨ad, e, hc 0 _ rfl, by rw [← add_field _ _ 1 (by omega)]; exact hc 1 _ rfl, by rw [← add_field _ _ 2 (by omega)]; exact hc 2 _ rfl⟩

/-! #### struct type 34 -/
structure S34 where
 f0 : Int
 f1 : Int
def z34 : S34 := ⟨(0 : Int), (0 : Int)⟩
def k34 : Kd S34 := Kd.iso (Kd.pair (Kd.int .i64) (Kd.int .i64)) (fun x : S34 => (x.f0, x.f1))
theorem k34_open {w : World} {x : S34} {cs : List Value} (h : k34.K w x cs) : cs = [.int .i64 x.f0, .int .i64 x.f1] := by
 obtain ⟨_, _, rfl, rfl, rfl⟩ := h
 exact rfl
theorem k34_openM {w : World} {base : Nat} {ok : Nat → Prop} {x : S34} {cs : List Value} (h : k34.M w base ok x cs) : cs = [.int .i64 x.f0, .int .i64 x.f1] := by
 obtain ⟨_, _, rfl, rfl, rfl⟩ := h
 exact rfl
theorem k34_mk (w : World) (x : S34)  : k34.K w x [.int .i64 x.f0, .int .i64 x.f1] := ⟨[.int .i64 x.f0], [.int .i64 x.f1], rfl, rfl, rfl⟩
theorem k34_mkM (w : World) (base : Nat) (ok : Nat → Prop) (x : S34)  : k34.M w base ok x [.int .i64 x.f0, .int .i64 x.f1] := ⟨[.int .i64 x.f0], [.int .i64 x.f1], rfl, rfl, rfl⟩
def rd_T34 (xs : List S34) (i : Int) : S34 := xs.getD i.toNat z34
theorem at_T34 {w : World} {A : Option Addr} {n : Nat} {xs : List S34} (h : Kd.C k34 w A n xs) (i : Int) (h0 : 0 ≤ i) (h1 : i < n) : ∃ ad , A = some ad ∧ w.cell? (ad.add (i.toNat * 2)) = some (.int .i64 (rd_T34 xs i).f0) ∧ w.cell? ⟨(ad.add (i.toNat * 2)).block, (ad.add (i.toNat * 2)).off + 1, none⟩ = some (.int .i64 (rd_T34 xs i).f1) := by
 obtain ⟨ad, c, e, _, hK, hc0⟩ := Kd.C_get h z34 i h0 h1
 have hc : ∀ j u, c[j]? = some u → w.cell? (ad.add (i.toNat * 2 + j)) = some u := hc0
 obtain rfl := k34_open hK
 exact ⟨ad, e, hc 0 _ rfl, by rw [← add_field _ _ 1 (by omega)]; exact hc 1 _ rfl⟩

/-! #### struct type 60 -/
structure S60 where
 f0 : Int
 f1 : Int
 f2 : Int
 f3 : Int
def z60 : S60 := ⟨(0 : Int), (0 : Int), (0 : Int), (0 : Int)⟩
def k60 : Kd S60 := Kd.iso (Kd.pair (Kd.int .i64) (Kd.pair (Kd.int .i64) (Kd.pair (Kd.int .i64) (Kd.int .i64)))) (fun x : S60 => (x.f0, x.f1, x.f2, x.f3))
theorem k60_open {w : World} {x : S60} {cs : List Value} (h : k60.K w x cs) : cs = [.int .i64 x.f0, .int .i64 x.f1, .int .i64 x.f2, .int .i64 x.f3] := by
 obtain ⟨_, _, rfl, rfl, ⟨_, _, rfl, rfl, ⟨_, _, rfl, rfl, rfl⟩⟩⟩ := h
 exact rfl
theorem k60_openM {w : World} {base : Nat} {ok : Nat → Prop} {x : S60} {cs : List Value} (h : k60.M w base ok x cs) : cs = [.int .i64 x.f0, .int .i64 x.f1, .int .i64 x.f2, .int .i64 x.f3] := by
 obtain ⟨_, _, rfl, rfl, ⟨_, _, rfl, rfl, ⟨_, _, rfl, rfl, rfl⟩⟩⟩ := h
 exact rfl
theorem k60_mk (w : World) (x : S60)  : k60.K w x [.int .i64 x.f0, .int .i64 x.f1, .int .i64 x.f2, .int .i64 x.f3] := ⟨[.int .i64 x.f0], [.int .i64 x.f1, .int .i64 x.f2, .int .i64 x.f3], rfl, rfl, ⟨[.int .i64 x.f1], [.int .i64 x.f2, .int .i64 x.f3], rfl, rfl, ⟨[.int .i64 x.f2], [.int .i64 x.f3], rfl, rfl, rfl⟩⟩⟩
theorem k60_mkM (w : World) (base : Nat) (ok : Nat → Prop) (x : S60)  : k60.M w base ok x [.int .i64 x.f0, .int .i64 x.f1, .int .i64 x.f2, .int .i64 x.f3] := ⟨[.int .i64 x.f0], [.int .i64 x.f1, .int .i64 x.f2, .int .i64 x.f3], rfl, rfl, ⟨[.int .i64 x.f1], [.int .i64 x.f2, .int .i64 x.f3], rfl, rfl, ⟨[.int .i64 x.f2], [.int .i64 x.f3], rfl, rfl, rfl⟩⟩⟩
def rd_T60 (xs : List S60) (i : Int) : S60 := xs.getD i.toNat z60
theorem at_T60 {w : World} {A : Option Addr} {n : Nat} {xs : List S60} (h : Kd.C k60 w A n xs) (i : Int) (h0 : 0 ≤ i) (h1 : i < n) : ∃ ad , A = some ad ∧ w.cell? (ad.add (i.toNat * 4)) = some (.int .i64 (rd_T60 xs i).f0) ∧ w.cell? ⟨(ad.add (i.toNat * 4)).block, (ad.add (i.toNat * 4)).off + 1, none⟩ = some (.int .i64 (rd_T60 xs i).f1) ∧ w.cell? ⟨(ad.add (i.toNat * 4)).block, (ad.add (i.toNat * 4)).off + 2, none⟩ = some (.int .i64 (rd_T60 xs i).f2) ∧ w.cell? ⟨(ad.add (i.toNat * 4)).block, (ad.add (i.toNat * 4)).off + 3, none⟩ = some (.int .i64 (rd_T60 xs i).f3) := by
 obtain ⟨ad, c, e, _, hK, hc0⟩ := Kd.C_get h z60 i h0 h1
 have hc : ∀ j u, c[j]? = some u → w.cell? (ad.add (i.toNat * 4 + j)) = some u := hc0
 obtain rfl := k60_open hK
 exact ⟨ad, e, hc 0 _ rfl, by rw [← add_field _ _ 1 (by omega)]; exact hc 1 _ rfl, by rw [← add_field _ _ 2 (by omega)]; exact hc 2 _ rfl, by rw [← add_field _ _ 3 (by omega)]; exact hc 3 _ rfl⟩

def rd_L5 (xs : List (List S60)) (i : Int) : (List S60) := xs.getD i.toNat ([] : List S60)
theorem at_L5 {w : World} {A : Option Addr} {n : Nat} {xs : List (List S60)} (h : Kd.C (Kd.slice 60 k60) w A n xs) (i : Int) (h0 : 0 ≤ i) (h1 : i < n) : ∃ ad A0 c0, A = some ad ∧ w.cell? (ad.add i.toNat) = some (.slice A0 (rd_L5 xs i).length c0) ∧ (rd_L5 xs i).length ≤ c0 ∧ k60.C w A0 (rd_L5 xs i).length (rd_L5 xs i) := by
 obtain ⟨ad, c, e, _, hK, hc0⟩ := Kd.C_get h ([] : List S60) i h0 h1
 have hc : ∀ j u, c[j]? = some u → w.cell? (ad.add (i.toNat * 1 + j)) = some u := hc0
 obtain ⟨A0, c0, rfl, l0, g0⟩ := hK
 exact ⟨ad, A0, c0, e, by have hq := hc 0 _ rfl; rwa [Nat.mul_one, Nat.add_zero] at hq, l0, g0⟩

-- aliases
theorem zO {p : Prop} [Decidable p] (h : decide p = true := by first | (with_reducible assumption) | assumption) : p := of_decide_eq_true h
abbrev za := @Aside0.mk
abbrev zb := @blk_alloc
abbrev zc := @blk_cell
abbrev zd := @blk_drewN
abbrev ze := @blk_frozen
abbrev zf := @pw_below_drewN
abbrev zg := @blk_drew
abbrev zh := @below_set
abbrev zi := @below_drew1
abbrev zj := @World.block_lt_of_cell?
abbrev zk := @below_alloc
abbrev zl := @Kd.R_drewN
abbrev zm := @Kd.R_alloc
abbrev zn := @Kd.R_drew
abbrev zo := @Kd.R_far
abbrev zp := @Kd.R_below
abbrev zq := @blk_below
abbrev zr := @Kd.R_mono
abbrev zs := @below_size
abbrev zt := @below_step
abbrev zu := @blk_put
abbrev zv := @blk_far
abbrev zw := @Kd.R_types
abbrev zx := @blk_lt
abbrev zy := @Kd.C_alloc
abbrev zz := @Kd.C_drewN
abbrev zaa := @Kd.R_slice
abbrev zab := @Kd.C_drew
abbrev zac := @Kd.R_ne
abbrev zad := @blk_kept
abbrev zae := @Kd.R_keptB
abbrev zaf := @blk_grown
abbrev zag := @Kd.R_lower
abbrev zah := @Kd.R_typed
abbrev zai := @Kd.R_apart'
abbrev zaj := @Kd.R_elder'
abbrev zak := @Kept.of_below
abbrev zal := @Kept.of_grown
abbrev zam := @Kd.R_base
abbrev zan := @Kd.R_lt
abbrev zao := @Kd.R_elem
abbrev zap := @Kd.R_new'
abbrev zaq := @Kd.C_below
abbrev zar := @Kd.R_tight
abbrev zas := @Kd.R_reok
abbrev zat := @Kd.R_nil
abbrev zau := @Kd.N_nil
abbrev zav := @Kd.V_nil
abbrev zaw := @Kd.Q_nil
abbrev zax := @Kd.S_nil
abbrev zay := @Kd.R_seg
abbrev zaz := @Kd.R_append_rows_step
abbrev zba := @Kd.R_newM
abbrev zbb := @Kd.R_elderB
abbrev zbc := @Kd.R_after
abbrev zbd := @Kd.R_append
abbrev zbe := @Kd.R_lit_step
abbrev zbf := @Kd.R_step
theorem zG58 {p : Prop} (h : p := by first | exact HK.out.1 | exact (show Kept w _ (fun k_ => P0_3_ k_) from by repeat (first | (with_reducible first | exact HK.out | apply Kept.alloc | apply Kept.drewN | apply Kept.drew | refine Kept.setCell ?_ (.inr GW146.out) _ | refine Kept.setCell ?_ (.inr GW147.out) _ | refine Kept.setCell ?_ (.inr GW148.out) _) | exact HK.out)).1) : p := h
theorem zG59 {p : Prop} (h : p := by repeat (first | (with_reducible first | exact HK.out | apply Kept.alloc | apply Kept.drewN | apply Kept.drew | refine Kept.setCell ?_ (.inr GW146.out) _ | refine Kept.setCell ?_ (.inr GW147.out) _ | refine Kept.setCell ?_ (.inr GW148.out) _) | exact HK.out)) : p := h
theorem zG60 {p : Prop} (h : p := by repeat (first | (with_reducible first | exact HB.out | apply zk | apply zf | apply zi | refine zh ?_ GE146.out | refine zh ?_ GE147.out | refine zh ?_ GE148.out) | exact HB.out)) : p := h
theorem zG61 {p : Prop} (h : p := by repeat (first | (with_reducible first | exact HB.out | apply zk | apply zf | apply zi | refine zh ?_ GE271.out | refine zh ?_ GE285.out) | exact HB.out)) : p := h
theorem zG62 {p : Prop} (h : p := by repeat (first | (with_reducible first | exact HB.out | apply zk | apply zf | apply zi | refine zh ?_ GE127.out | refine zh ?_ GE128.out) | exact HB.out)) : p := h
theorem zG63 {p : Prop} (h : p := by (try simp only [List.map_toArray, List.map_cons, List.map_nil]); first | done | rfl | (simp only [List.length_drop, List.length_take]; rfl)) : p := h
theorem zG64 {p : Prop} (h : p := by repeat (first | (with_reducible first | exact HB.out | apply zk | apply zf | apply zi | refine zh ?_ GE181.out) | exact HB.out)) : p := h
theorem zG65 {p : Prop} (h : p := by repeat (first | (with_reducible first | exact HB.out | apply zk | apply zf | apply zi | refine zh ?_ GE230.out) | exact HB.out)) : p := h
theorem zG66 {p : Prop} (h : p := by repeat (first | (with_reducible first | exact HB.out | apply zk | apply zf | apply zi | refine zh ?_ GE233.out) | exact HB.out)) : p := h
theorem zG67 {p : Prop} (h : p := by repeat (first | (with_reducible first | exact HB.out | apply zk | apply zf | apply zi | refine zh ?_ GE225.out) | exact HB.out)) : p := h
theorem zG68 {p : Prop} (h : p := by repeat (first | (with_reducible first | exact HB.out | apply zk | apply zf | apply zi | refine zh ?_ GE108.out) | exact HB.out)) : p := h
theorem zG69 {p : Prop} (h : p := by repeat (first | (with_reducible first | exact HK.out | apply Kept.alloc | apply Kept.drewN | apply Kept.drew) | exact HK.out)) : p := h
theorem zG70 {p : Prop} (h : p := by repeat (first | (with_reducible first | exact HB.out | apply zk | apply zf | apply zi) | exact HB.out)) : p := h
theorem zG71 {p : Prop} (h : p := by (with_reducible repeat (first | refine zd ?_ _ | refine zg ?_ | refine zb ?_ _)); exact BK271.out) : p := h
theorem zG72 {p : Prop} (h : p := by (with_reducible repeat (first | refine zd ?_ _ | refine zg ?_ | refine zb ?_ _)); exact BK285.out) : p := h
theorem zG73 {p : Prop} (h : p := by (with_reducible repeat (first | refine zd ?_ _ | refine zg ?_ | refine zb ?_ _)); exact BK181.out) : p := h
theorem zG74 {p : Prop} (h : p := by (with_reducible repeat (first | refine zd ?_ _ | refine zg ?_ | refine zb ?_ _)); exact BK230.out) : p := h
theorem zG75 {p : Prop} (h : p := by (with_reducible repeat (first | refine zd ?_ _ | refine zg ?_ | refine zb ?_ _)); exact BK233.out) : p := h
theorem zG76 {p : Prop} (h : p := by (with_reducible repeat (first | refine zd ?_ _ | refine zg ?_ | refine zb ?_ _)); exact BK108.out) : p := h
theorem zG77 {p : Prop} (h : p := by (with_reducible repeat (first | refine zd ?_ _ | refine zg ?_ | refine zb ?_ _)); exact BK127.out) : p := h
theorem zG78 {p : Prop} (h : p := by (with_reducible repeat (first | refine zd ?_ _ | refine zg ?_ | refine zb ?_ _)); exact BK128.out) : p := h
theorem zG79 {p : Prop} (h : p := by (with_reducible repeat (first | refine zd ?_ _ | refine zg ?_ | refine zb ?_ _)); exact BK146.out) : p := h
theorem zG80 {p : Prop} (h : p := by (with_reducible repeat (first | refine zd ?_ _ | refine zg ?_ | refine zb ?_ _)); exact BK147.out) : p := h
theorem zG81 {p : Prop} (h : p := by (with_reducible repeat (first | refine zd ?_ _ | refine zg ?_ | refine zb ?_ _)); exact BK148.out) : p := h
theorem zG82 {p : Prop} (h : p := by (with_reducible repeat (first | apply zm | apply zl | apply zn)); exact HO_272003.out) : p := h
theorem zG83 {p : Prop} (h : p := by (with_reducible repeat (first | apply zm | apply zl | apply zn)); exact HO_286003.out) : p := h
theorem zG84 {p : Prop} (h : p := by (with_reducible repeat (first | apply zm | apply zl | apply zn)); exact HO_147003.out) : p := h
theorem zG85 {p : Prop} (h : p := by (with_reducible repeat (first | apply zm | apply zl | apply zn)); exact HO_10.out) : p := h
theorem zG86 {p : Prop} (h : p := by (with_reducible repeat (first | apply zm | apply zl | apply zn)); exact HO_6.out) : p := h
theorem zG87 {p : Prop} (h : p := by first | rfl | (simp; done) | (simp [*]; done)) : p := h
theorem zG88 {p : Prop} (h : p := by kernel_rfl) : p := h
theorem zG89 {p : Prop} (h : p := by decide) : p := h
-- pressed
abbrev zA_ := @And.intro
-- pressed twice
theorem zAi {a b c : Prop} (h : a → b → c) : a ∧ b → c := fun x => h x.1 x.2
theorem zP {P : Program} {ops : Array Oper} {Q : Exit → Act → World → Prop} {md : Region.Mode} {S : World → Prop} {ds : List Nat} {T : Bool × List (List Nat × List Nat)} {oi : Oper} {v : Value} {fuel : Nat} {l : Array Bool} {a a' : Act} {w : World} (i : Nat) (N : Tmp) (l' : Array Bool) (hT : Aside0 (rtab md ops = T)) (h : wpAnyLast P md ops Q S ds fuel l' a' w) (hi : ops[i]? = some oi := by rfl) (hN : oi.dst = some N := by rfl) (hc : anyT T l.toList l'.toList i = true := by kernel_rfl) (hQ : ∀ c a w, Q (.panic c) (a.put oi.dst v) w → Q (.panic c) a w := by exact fun _ _ _ h => h) (hw : Region.wanted oi (yielded ops a.tmps) = true := by rfl) (hy : ∀ w, (execOp a.eval oi).run P w = .ok (.value v) w := by intro w'; go_simp; with_reducible rfl) (ha : a.put (some N) v = a' := by simp only [Act.put, List.setIfInBounds_toArray, List.set_cons_zero, List.set_cons_succ, i64_w, i32_w]; rfl) : wpAnyLast P md ops Q S ds (fuel + 1) l a w := pure_ l' hi hN (any_of hT.out hc) hQ (Or.inl ⟨hw, hy⟩) ha h
theorem zQ {P : Program} {ops : Array Oper} {Q : Exit → Act → World → Prop} {md : Region.Mode} {S : World → Prop} {ds : List Nat} {T : Bool × List (List Nat × List Nat)} {oi : Oper} {v : Value} {fuel : Nat} {l : Array Bool} {a a' : Act} {w : World} {B : List Nat} (i : Nat) (N : Tmp) (l' : Array Bool) (hT : Aside0 (rtab md ops = T)) (hW : Aside0 (waitsOk T.2 B = true)) (hS : S w) (h : wpAnyLast P md ops Q S ds fuel l' a' w) (hi : ops[i]? = some oi := by rfl) (hN : oi.dst = some N := by rfl) (hc : takeW T B ds l.toList l'.toList i = true := by kernel_rfl) (hQ : ∀ c a w, Q (.panic c) (a.put oi.dst v) w → Q (.panic c) a w := by exact fun _ _ _ h => h) (hw : Region.wanted oi (yielded ops a.tmps) = true := by rfl) (hy : ∀ w, S w → (execOp a.eval oi).run P w = .ok (.value v) w := by intro w'; (repeat (refine zAi ?_; intro _)); intro _; go_simp; with_reducible rfl) (ha : a.put (some N) v = a' := by simp only [Act.put, List.setIfInBounds_toArray, List.set_cons_zero, List.set_cons_succ, i64_w, i32_w]; rfl) : wpAnyLast P md ops Q S ds (fuel + 1) l a w := take_ l' hi hN (take_ofW hT.out hW.out hc) hQ (Or.inl ⟨hw, hy⟩) hS ha h
theorem zU {P : Program} {ops : Array Oper} {Q : Exit → Act → World → Prop} {md : Region.Mode} {S : World → Prop} {ds : List Nat} {T : Bool × List (List Nat × List Nat)} {oi : Oper} {fuel : Nat} {l : Array Bool} {a a' : Act} {w : World} (i : Nat) (N : Tmp) (l' : Array Bool) (hT : Aside0 (rtab md ops = T)) (h : wpAnyLast P md ops Q S ds fuel l' a' w) (hi : ops[i]? = some oi := by rfl) (hN : oi.dst = some N := by rfl) (hc : anyT T l.toList l'.toList i = true := by kernel_rfl) (hQ : ∀ c a w, Q (.panic c) (a.put oi.dst undef) w → Q (.panic c) a w := by exact fun _ _ _ h => h) (hw : Region.wanted oi (yielded ops a.tmps) = false := by rfl) (ha : a.put (some N) undef = a' := by simp only [Act.put, List.setIfInBounds_toArray, List.set_cons_zero, List.set_cons_succ, i64_w, i32_w]; rfl) : wpAnyLast P md ops Q S ds (fuel + 1) l a w := pure_ l' hi hN (any_of hT.out hc) hQ (Or.inr ⟨hw, rfl⟩) ha h
def zM (n m : Nat) : Array Bool := ⟨(List.range n).map (fun i => Nat.testBit m i)⟩
theorem zB2 {w : World} {g : Nat} {t : TypeId} {v0 v1 : Value} (h : w.heap[g]? = some (.cells #[v0, v1] t (0, 0))) : w.cell? ⟨g, 0, none⟩ = some v0 ∧ w.cell? ⟨g, 1, none⟩ = some v1 ∧ w.frozen? ⟨g, 0, none⟩ = false ∧ w.frozen? ⟨g, 1, none⟩ = false := ⟨(blk_cell h 0).trans rfl, (blk_cell h 1).trans rfl, blk_frozen h 0, blk_frozen h 1⟩
theorem zB3 {w : World} {g : Nat} {t : TypeId} {v0 v1 v2 : Value} (h : w.heap[g]? = some (.cells #[v0, v1, v2] t (0, 0))) : w.cell? ⟨g, 0, none⟩ = some v0 ∧ w.cell? ⟨g, 1, none⟩ = some v1 ∧ w.cell? ⟨g, 2, none⟩ = some v2 ∧ w.frozen? ⟨g, 0, none⟩ = false ∧ w.frozen? ⟨g, 1, none⟩ = false ∧ w.frozen? ⟨g, 2, none⟩ = false := ⟨(blk_cell h 0).trans rfl, (blk_cell h 1).trans rfl, (blk_cell h 2).trans rfl, blk_frozen h 0, blk_frozen h 1, blk_frozen h 2⟩
theorem zB4 {w : World} {g : Nat} {t : TypeId} {v0 v1 v2 v3 : Value} (h : w.heap[g]? = some (.cells #[v0, v1, v2, v3] t (0, 0))) : w.cell? ⟨g, 0, none⟩ = some v0 ∧ w.cell? ⟨g, 1, none⟩ = some v1 ∧ w.cell? ⟨g, 2, none⟩ = some v2 ∧ w.cell? ⟨g, 3, none⟩ = some v3 ∧ w.frozen? ⟨g, 0, none⟩ = false ∧ w.frozen? ⟨g, 1, none⟩ = false ∧ w.frozen? ⟨g, 2, none⟩ = false ∧ w.frozen? ⟨g, 3, none⟩ = false := ⟨(blk_cell h 0).trans rfl, (blk_cell h 1).trans rfl, (blk_cell h 2).trans rfl, (blk_cell h 3).trans rfl, blk_frozen h 0, blk_frozen h 1, blk_frozen h 2, blk_frozen h 3⟩
theorem zN1 (p : Nat) {b s : Nat} (hg : b = s) (h : p ≤ s) : Aside0 (p ≤ b) := ⟨hg ▸ h⟩
theorem zN2 {a b s : Nat} (hg : b = s) (h : a < s) : Aside0 (a ≠ b) ∧ Aside0 (b ≠ a) := ⟨⟨by subst hg; exact Nat.ne_of_lt h⟩, ⟨by subst hg; exact Nat.ne_of_gt h⟩⟩
theorem zN3 {a b s : Nat} {c : Prop} (hg : b = s) (h : a < s) (r : c) : Aside0 (a ≠ b) ∧ Aside0 (b ≠ a) ∧ c := ⟨(zN2 hg h).1, (zN2 hg h).2, r⟩
theorem zD2 {p0 p1 : Prop} (h0 : p0) (h1 : p1) : Aside0 p0 ∧ Aside0 p1 := ⟨⟨h0⟩, ⟨h1⟩⟩
theorem zD3 {p0 p1 p2 : Prop} (h0 : p0) (h1 : p1) (h2 : p2) : Aside0 p0 ∧ Aside0 p1 ∧ Aside0 p2 := ⟨⟨h0⟩, ⟨h1⟩, ⟨h2⟩⟩
theorem zD4 {p0 p1 p2 p3 : Prop} (h0 : p0) (h1 : p1) (h2 : p2) (h3 : p3) : Aside0 p0 ∧ Aside0 p1 ∧ Aside0 p2 ∧ Aside0 p3 := ⟨⟨h0⟩, ⟨h1⟩, ⟨h2⟩, ⟨h3⟩⟩
theorem zD5 {p0 p1 p2 p3 p4 : Prop} (h0 : p0) (h1 : p1) (h2 : p2) (h3 : p3) (h4 : p4) : Aside0 p0 ∧ Aside0 p1 ∧ Aside0 p2 ∧ Aside0 p3 ∧ Aside0 p4 := ⟨⟨h0⟩, ⟨h1⟩, ⟨h2⟩, ⟨h3⟩, ⟨h4⟩⟩
theorem zD6 {p0 p1 p2 p3 p4 p5 : Prop} (h0 : p0) (h1 : p1) (h2 : p2) (h3 : p3) (h4 : p4) (h5 : p5) : Aside0 p0 ∧ Aside0 p1 ∧ Aside0 p2 ∧ Aside0 p3 ∧ Aside0 p4 ∧ Aside0 p5 := ⟨⟨h0⟩, ⟨h1⟩, ⟨h2⟩, ⟨h3⟩, ⟨h4⟩, ⟨h5⟩⟩
theorem zD7 {p0 p1 p2 p3 p4 p5 p6 : Prop} (h0 : p0) (h1 : p1) (h2 : p2) (h3 : p3) (h4 : p4) (h5 : p5) (h6 : p6) : Aside0 p0 ∧ Aside0 p1 ∧ Aside0 p2 ∧ Aside0 p3 ∧ Aside0 p4 ∧ Aside0 p5 ∧ Aside0 p6 := ⟨⟨h0⟩, ⟨h1⟩, ⟨h2⟩, ⟨h3⟩, ⟨h4⟩, ⟨h5⟩, ⟨h6⟩⟩
theorem zD8 {p0 p1 p2 p3 p4 p5 p6 p7 : Prop} (h0 : p0) (h1 : p1) (h2 : p2) (h3 : p3) (h4 : p4) (h5 : p5) (h6 : p6) (h7 : p7) : Aside0 p0 ∧ Aside0 p1 ∧ Aside0 p2 ∧ Aside0 p3 ∧ Aside0 p4 ∧ Aside0 p5 ∧ Aside0 p6 ∧ Aside0 p7 := ⟨⟨h0⟩, ⟨h1⟩, ⟨h2⟩, ⟨h3⟩, ⟨h4⟩, ⟨h5⟩, ⟨h6⟩, ⟨h7⟩⟩
theorem zD12 {p0 p1 p2 p3 p4 p5 p6 p7 p8 p9 p10 p11 : Prop} (h0 : p0) (h1 : p1) (h2 : p2) (h3 : p3) (h4 : p4) (h5 : p5) (h6 : p6) (h7 : p7) (h8 : p8) (h9 : p9) (h10 : p10) (h11 : p11) : Aside0 p0 ∧ Aside0 p1 ∧ Aside0 p2 ∧ Aside0 p3 ∧ Aside0 p4 ∧ Aside0 p5 ∧ Aside0 p6 ∧ Aside0 p7 ∧ Aside0 p8 ∧ Aside0 p9 ∧ Aside0 p10 ∧ Aside0 p11 := ⟨⟨h0⟩, ⟨h1⟩, ⟨h2⟩, ⟨h3⟩, ⟨h4⟩, ⟨h5⟩, ⟨h6⟩, ⟨h7⟩, ⟨h8⟩, ⟨h9⟩, ⟨h10⟩, ⟨h11⟩⟩
theorem zH0 {p : Prop} (h : p := by exact ⟨_, by first | rfl | (simp [errW_none, errW_some] <;> rfl) | (simp [*, errW_none, errW_some] <;> rfl), by (with_reducible repeat (first | apply zm | apply zl | apply zn)); exact zr (zo (p := ⟨gb148, 3, none⟩) (zo (p := ⟨gb148, 2, none⟩) (zo (p := ⟨gb148, 1, none⟩) (zo (p := ⟨gb148, 0, none⟩) (zw HO_147003.out BK148.out zG89) (fun _ hk => hk.2) (.int .i64 a0_0)) (fun _ hk => hk.2) (.int .i64 a0_1)) (fun _ hk => hk.2) (.int .i64 a0_2)) (fun _ hk => hk.2) (.slice Ao61 l0_3.length co61)) (fun _ hk => hk.1), by repeat (first | (with_reducible first | exact HB.out | apply zk | apply zf | apply zi | refine zh ?_ GE146.out | refine zh ?_ GE147.out | refine zh ?_ GE148.out) | exact HB.out), by repeat (first | (with_reducible first | exact HK.out | apply Kept.alloc | apply Kept.drewN | apply Kept.drew | refine Kept.setCell ?_ (.inr GW146.out) _ | refine Kept.setCell ?_ (.inr GW147.out) _ | refine Kept.setCell ?_ (.inr GW148.out) _) | exact HK.out)⟩) : p := h
theorem zH1 {p : Prop} (h : p := by exact ⟨_, by first | rfl | (simp [errW_none, errW_some] <;> rfl) | (simp [*, errW_none, errW_some] <;> rfl), by (with_reducible repeat (first | apply zm | apply zl | apply zn)); exact zr (zo (p := ⟨gb148, 3, none⟩) (zo (p := ⟨gb148, 2, none⟩) (zo (p := ⟨gb148, 1, none⟩) (zo (p := ⟨gb148, 0, none⟩) (zw HO_147003.out BK148.out zG89) (fun _ hk => hk.2) (.int .i64 a0_0)) (fun _ hk => hk.2) (.int .i64 a0_1)) (fun _ hk => hk.2) (.int .i64 a0_2)) (fun _ hk => hk.2) (.slice Ao5 l0_3.length co5)) (fun _ hk => hk.1), by repeat (first | (with_reducible first | exact HB.out | apply zk | apply zf | apply zi | refine zh ?_ GE146.out | refine zh ?_ GE147.out | refine zh ?_ GE148.out) | exact HB.out), by repeat (first | (with_reducible first | exact HK.out | apply Kept.alloc | apply Kept.drewN | apply Kept.drew | refine Kept.setCell ?_ (.inr GW146.out) _ | refine Kept.setCell ?_ (.inr GW147.out) _ | refine Kept.setCell ?_ (.inr GW148.out) _) | exact HK.out)⟩) : p := h
theorem zH2 {p : Prop} (h : p := by exact (fun k_ hk => Kd.freshB (g := gb133) (o := .cells #[.int .i64 ((rd_T36 l0_3 x8_1).f0), .int .i64 ((rd_T36 l0_3 x8_1).f1), .int .i64 ((rd_T36 l0_3 x8_1).f2)] 36 (0, 0)) (by (with_reducible repeat (first | refine zd ?_ _ | refine zg ?_ | refine zb ?_ _)); refine zu (cs := #[.int .i64 ((rd_T36 l0_3 x8_1).f0), .int .i64 ((rd_T36 l0_3 x8_1).f1), .int .i64 0]) ?_ 2 _ rfl; (with_reducible repeat (first | refine zd ?_ _ | refine zg ?_ | refine zb ?_ _)); refine zu (cs := #[.int .i64 ((rd_T36 l0_3 x8_1).f0), .int .i64 0, .int .i64 0]) ?_ 1 _ rfl; (with_reducible repeat (first | refine zd ?_ _ | refine zg ?_ | refine zb ?_ _)); refine zu (cs := #[.int .i64 0, .int .i64 0, .int .i64 0]) ?_ 0 _ rfl; (with_reducible repeat (first | refine zd ?_ _ | refine zg ?_ | refine zb ?_ _)); exact BK133.out) k_ hk)) : p := h
theorem zH3 {p : Prop} (h : p := by exact ⟨_, by first | rfl | (simp [errW_none, errW_some] <;> rfl) | (simp [*, errW_none, errW_some] <;> rfl), by (with_reducible repeat (first | apply zm | apply zl | apply zn)); exact HO_1003.out, (by (with_reducible repeat (first | refine zd ?_ _ | refine zg ?_ | refine zb ?_ _)); exact BK0.out), by repeat (first | (with_reducible first | exact HB.out | apply zk | apply zf | apply zi | refine zh ?_ GE0.out | refine zh ?_ GE101.out) | exact HB.out), by repeat (first | (with_reducible first | exact HK.out | apply Kept.alloc | apply Kept.drewN | apply Kept.drew | refine Kept.setCell ?_ (.inl (Or.inr rfl)) _ | refine Kept.setCell ?_ (.inr GW101.out) _) | exact HK.out)⟩) : p := h
theorem zH4 {p : Prop} (h : p := by exact ⟨_, _, by first | rfl | (simp [errW_none, errW_some] <;> rfl) | (simp [*, errW_none, errW_some] <;> rfl), by first | exact zat _ _ _ _ _ | exact zau _ _ _ _ _ | exact zav _ _ _ _ _ | exact zaw _ _ _ _ _ | exact zax _ _ _ _ _, by first | exact zat _ _ _ _ _ | exact zau _ _ _ _ _ | exact zav _ _ _ _ _ | exact zaw _ _ _ _ _ | exact zax _ _ _ _ _, by repeat (first | (with_reducible first | exact HB.out | apply zk | apply zf | apply zi | refine zh ?_ GE108.out) | exact HB.out)⟩) : p := h
theorem zH5 {p : Prop} (h : p := by (with_reducible repeat (first | refine zd ?_ _ | refine zg ?_ | refine zb ?_ _)); refine zv ?_ NB127_133.out _; (with_reducible repeat (first | refine zd ?_ _ | refine zg ?_ | refine zb ?_ _)); refine zv ?_ NB127_133.out _; (with_reducible repeat (first | refine zd ?_ _ | refine zg ?_ | refine zb ?_ _)); refine zv ?_ NB127_133.out _; (with_reducible repeat (first | refine zd ?_ _ | refine zg ?_ | refine zb ?_ _)); exact BK127.out) : p := h
theorem zH6 {p : Prop} (h : p := by (with_reducible repeat (first | refine zd ?_ _ | refine zg ?_ | refine zb ?_ _)); refine zv ?_ NB128_133.out _; (with_reducible repeat (first | refine zd ?_ _ | refine zg ?_ | refine zb ?_ _)); refine zv ?_ NB128_133.out _; (with_reducible repeat (first | refine zd ?_ _ | refine zg ?_ | refine zb ?_ _)); refine zv ?_ NB128_133.out _; (with_reducible repeat (first | refine zd ?_ _ | refine zg ?_ | refine zb ?_ _)); exact BK128.out) : p := h
theorem zH7 {p : Prop} (h : p := by exact ⟨by first | rfl | (simp [errW_none, errW_some] <;> rfl) | (simp [*, errW_none, errW_some] <;> rfl), by (with_reducible repeat (first | apply zm | apply zl | apply zn)); exact HO_0.out, by repeat (first | (with_reducible first | exact HB.out | apply zk | apply zf | apply zi) | exact HB.out), by repeat (first | (with_reducible first | exact HK.out | apply Kept.alloc | apply Kept.drewN | apply Kept.drew) | exact HK.out)⟩) : p := h
theorem zH8 {p : Prop} (h : p := by exact (by (with_reducible repeat (first | apply zm | apply zl | apply zn)); exact zr (zo (p := ⟨gb133, 2, none⟩) (zo (p := ⟨gb133, 1, none⟩) (zo (p := ⟨gb133, 0, none⟩) (zr HO_6.out (fun k_ hk => (⟨hk, hk.2⟩ : _ ∧ k_ ≠ gb133))) (fun _ hk => hk.2) (.int .i64 ((rd_T36 l0_3 x8_1).f0))) (fun _ hk => hk.2) (.int .i64 ((rd_T36 l0_3 x8_1).f1))) (fun _ hk => hk.2) (.int .i64 ((rd_T36 l0_3 x8_1).f2))) (fun _ hk => hk.1.2))) : p := h
theorem zH9 {p : Prop} (h : p := by (with_reducible repeat (first | apply zm | apply zl | apply zn)); exact zr (zo (p := ⟨gb133, 2, none⟩) (zo (p := ⟨gb133, 1, none⟩) (zo (p := ⟨gb133, 0, none⟩) (zr HO_6.out (fun k_ hk => (⟨hk, hk.2⟩ : _ ∧ k_ ≠ gb133))) (fun _ hk => hk.2) (.int .i64 ((rd_T36 l0_3 x8_1).f0))) (fun _ hk => hk.2) (.int .i64 ((rd_T36 l0_3 x8_1).f1))) (fun _ hk => hk.2) (.int .i64 ((rd_T36 l0_3 x8_1).f2))) (fun _ hk => trivial)) : p := h
theorem zH10 {p : Prop} (h : p := by repeat (first | (with_reducible first | exact HK.out | apply Kept.alloc | apply Kept.drewN | apply Kept.drew | refine Kept.setCell ?_ (.inr GW146.out) _ | refine Kept.setCell ?_ (.inr GW147.out) _ | refine Kept.setCell ?_ (.inr GW148.out) _ | refine Kept.setCell ?_ (.inr GW171.out) _) | exact HK.out)) : p := h
theorem zH11 {p : Prop} (h : p := by exact ⟨by first | rfl | (simp [errW_none, errW_some] <;> rfl) | (simp [*, errW_none, errW_some] <;> rfl), by repeat (first | (with_reducible first | exact HB.out | apply zk | apply zf | apply zi | refine zh ?_ GE271.out | refine zh ?_ GE285.out | refine zh ?_ GE315.out) | exact HB.out)⟩) : p := h
theorem zH12 {p : Prop} (h : p := by exact ⟨by first | rfl | (simp [errW_none, errW_some] <;> rfl) | (simp [*, errW_none, errW_some] <;> rfl), by repeat (first | (with_reducible first | exact HB.out | apply zk | apply zf | apply zi | refine zh ?_ GE220.out | refine zh ?_ GE221.out) | exact HB.out)⟩) : p := h
theorem zH13 {p : Prop} (h : p := by exact ⟨by first | rfl | (simp [errW_none, errW_some] <;> rfl) | (simp [*, errW_none, errW_some] <;> rfl), by repeat (first | (with_reducible first | exact HB.out | apply zk | apply zf | apply zi | refine zh ?_ GE225.out | refine zh ?_ GE226.out) | exact HB.out)⟩) : p := h
theorem zH14 {p : Prop} (h : p := by exact ⟨by first | rfl | (simp [errW_none, errW_some] <;> rfl) | (simp [*, errW_none, errW_some] <;> rfl), by repeat (first | (with_reducible first | exact HB.out | apply zk | apply zf | apply zi | refine zh ?_ GE230.out | refine zh ?_ GE231.out) | exact HB.out)⟩) : p := h
theorem zH15 {p : Prop} (h : p := by exact ⟨by first | rfl | (simp [errW_none, errW_some] <;> rfl) | (simp [*, errW_none, errW_some] <;> rfl), by repeat (first | (with_reducible first | exact HB.out | apply zk | apply zf | apply zi | refine zh ?_ GE233.out | refine zh ?_ GE234.out) | exact HB.out)⟩) : p := h
theorem zH16 {p : Prop} (h : p := by exact ⟨by first | rfl | (simp [errW_none, errW_some] <;> rfl) | (simp [*, errW_none, errW_some] <;> rfl), by repeat (first | (with_reducible first | exact HB.out | apply zk | apply zf | apply zi | refine zh ?_ GE271.out | refine zh ?_ GE285.out) | exact HB.out)⟩) : p := h
theorem zH17 {p : Prop} (h : p := by repeat (first | (with_reducible first | exact HK.out | apply Kept.alloc | apply Kept.drewN | apply Kept.drew | refine Kept.setCell ?_ (.inr GW146.out) _ | refine Kept.setCell ?_ (.inr GW147.out) _ | refine Kept.setCell ?_ (.inr GW148.out) _) | exact HK.out)) : p := h
theorem zH18 {p : Prop} (h : p := by exact ⟨by first | rfl | (simp [errW_none, errW_some] <;> rfl) | (simp [*, errW_none, errW_some] <;> rfl), by repeat (first | (with_reducible first | exact HB.out | apply zk | apply zf | apply zi | refine zh ?_ GE255.out) | exact HB.out)⟩) : p := h
theorem zH19 {p : Prop} (h : p := by exact (Reps.c3 (show Kd.M k36 _ _ _ (⟨a1_1, a1_2, wrap64 (a0_0 + a1_3)⟩ : S36) [.int .i64 a1_1, .int .i64 a1_2, .int .i64 (wrap64 (a0_0 + a1_3))] from (k36_mkM _ _ _ (⟨a1_1, a1_2, wrap64 (a0_0 + a1_3)⟩ : S36) )) (Reps.none _ _))) : p := h
theorem zH20 {p : Prop} (h : p := by repeat (first | (with_reducible first | exact HK.out | apply Kept.alloc | apply Kept.drewN | apply Kept.drew | refine Kept.setCell ?_ (.inl (Or.inr rfl)) _ | refine Kept.setCell ?_ (.inr GW101.out) _) | exact HK.out)) : p := h
theorem zH21 {p : Prop} (h : p := by exact ⟨by first | rfl | (simp [errW_none, errW_some] <;> rfl) | (simp [*, errW_none, errW_some] <;> rfl), by repeat (first | (with_reducible first | exact HB.out | apply zk | apply zf | apply zi) | exact HB.out)⟩) : p := h
theorem zH22 {p : Prop} (h : p := by repeat (first | (with_reducible first | exact HB.out | apply zk | apply zf | apply zi | refine zh ?_ GE146.out | refine zh ?_ GE147.out | refine zh ?_ GE148.out | refine zh ?_ GE171.out) | exact HB.out)) : p := h
theorem zH23 {p : Prop} (h : p := by exact (zs (by repeat (first | (with_reducible first | exact HB.out | apply zk | apply zf | apply zi | refine zh ?_ GE127.out | refine zh ?_ GE128.out | refine zh ?_ GE133.out) | exact HB.out)))) : p := h
theorem zH24 {p : Prop} (h : p := by exact (fun k_ hk => ⟨(.inr (Nat.le_trans zG58 hk)), Kd.fresh' (zan zG84) k_ hk, Kd.fresh' (zan (by (with_reducible repeat (first | apply zm | apply zl | apply zn)); exact HO160.out)) k_ hk⟩)) : p := h
theorem zH25 {p : Prop} (h : p := by exact (by repeat (first | (with_reducible first | exact HB.out | apply zk | apply zf | apply zi | refine zh ?_ GE127.out | refine zh ?_ GE128.out | refine zh ?_ GE133.out) | exact HB.out))) : p := h
theorem zH26 {p : Prop} (h : p := by repeat (first | (with_reducible first | exact HB.out | apply zk | apply zf | apply zi | refine zh ?_ GE127.out | refine zh ?_ GE128.out | refine zh ?_ GE133.out) | exact HB.out)) : p := h
theorem zH27 {p : Prop} (h : p := by repeat (first | (with_reducible first | exact HB.out | apply zk | apply zf | apply zi | refine zh ?_ GE271.out | refine zh ?_ GE285.out | refine zh ?_ GE315.out) | exact HB.out)) : p := h
theorem zH28 {p : Prop} (h : p := by repeat (first | (with_reducible first | exact HB.out | apply zk | apply zf | apply zi | refine zh ?_ GE146.out | refine zh ?_ GE147.out | refine zh ?_ GE148.out) | exact HB.out)) : p := h
theorem zH29 {p : Prop} (h : p := by exact ⟨v4_, rfl, zr HR9.out (fun _ h => .inl h.1), HB9.out, HW9.out, (HK3.out.mono (fun _ h => h.elim)).then_ HK9.out (fun _ h => .inl (h.imp (fun h => h.1) id))⟩) : p := h
theorem zH30 {p : Prop} (h : p := by repeat (first | (with_reducible first | exact HB.out | apply zk | apply zf | apply zi | refine zh ?_ GE108.out | refine zh ?_ GE114.out) | exact HB.out)) : p := h
theorem zH31 {p : Prop} (h : p := by repeat (first | (with_reducible first | exact HB.out | apply zk | apply zf | apply zi | refine zh ?_ GE127.out | refine zh ?_ GE128.out) | exact HB.out)) : p := h
theorem zH32 {p : Prop} (h : p := by repeat (first | (with_reducible first | exact HB.out | apply zk | apply zf | apply zi | refine zh ?_ GE181.out | refine zh ?_ GE192.out) | exact HB.out)) : p := h
theorem zH33 {p : Prop} (h : p := by repeat (first | exact (Kd.R_reads' HO_272003.out).2.2 | (with_reducible refine zy ?_ _) | (with_reducible refine zz ?_ _) | (with_reducible refine zab ?_))) : p := h
theorem zH34 {p : Prop} (h : p := by repeat (first | (with_reducible first | exact HB.out | apply zk | apply zf | apply zi | refine zh ?_ GE230.out | refine zh ?_ GE231.out) | exact HB.out)) : p := h
theorem zH35 {p : Prop} (h : p := by repeat (first | exact (Kd.R_reads' HO_286003.out).2.2 | (with_reducible refine zy ?_ _) | (with_reducible refine zz ?_ _) | (with_reducible refine zab ?_))) : p := h
theorem zH36 {p : Prop} (h : p := by repeat (first | (with_reducible first | exact HB.out | apply zk | apply zf | apply zi | refine zh ?_ GE271.out | refine zh ?_ GE285.out) | exact HB.out)) : p := h
theorem zH37 {p : Prop} (h : p := by repeat (first | (with_reducible first | exact HB.out | apply zk | apply zf | apply zi | refine zh ?_ GE0.out | refine zh ?_ GE101.out) | exact HB.out)) : p := h
theorem zH38 {p : Prop} (h : p := by repeat (first | (with_reducible first | exact HB.out | apply zk | apply zf | apply zi | refine zh ?_ GE271.out | refine zh ?_ GE285.out) | exact HB.out)) : p := h
theorem zH39 {p : Prop} (h : p := by repeat (first | exact (Kd.R_reads' HO269.out).2.2 | (with_reducible refine zy ?_ _) | (with_reducible refine zz ?_ _) | (with_reducible refine zab ?_))) : p := h
theorem zH40 {p : Prop} (h : p := by repeat (first | exact (Kd.R_reads' HO283.out).2.2 | (with_reducible refine zy ?_ _) | (with_reducible refine zz ?_ _) | (with_reducible refine zab ?_))) : p := h
theorem zH41 {p : Prop} (h : p := by repeat (first | exact (Kd.R_reads' HO290.out).2.2 | (with_reducible refine zy ?_ _) | (with_reducible refine zz ?_ _) | (with_reducible refine zab ?_))) : p := h
theorem zH42 {p : Prop} (h : p := by repeat (first | exact (Kd.R_reads' HO313.out).2.2 | (with_reducible refine zy ?_ _) | (with_reducible refine zz ?_ _) | (with_reducible refine zab ?_))) : p := h
theorem zH43 {p : Prop} (h : p := by repeat (first | exact (Kd.R_reads' HO_10.out).2.2 | (with_reducible refine zy ?_ _) | (with_reducible refine zz ?_ _) | (with_reducible refine zab ?_))) : p := h
theorem zH44 {p : Prop} (h : p := by repeat (first | exact (Kd.R_reads' HO_9.out).2.2 | (with_reducible refine zy ?_ _) | (with_reducible refine zz ?_ _) | (with_reducible refine zab ?_))) : p := h
theorem zH45 {p : Prop} (h : p := by repeat (first | exact (Kd.R_reads' HO_6.out).2.2 | (with_reducible refine zy ?_ _) | (with_reducible refine zz ?_ _) | (with_reducible refine zab ?_))) : p := h
theorem zH46 {p : Prop} (h : p := by repeat (first | exact (q4a HO_147003.out).2.2 | (with_reducible refine zy ?_ _) | (with_reducible refine zz ?_ _) | (with_reducible refine zab ?_))) : p := h
theorem zH47 {p : Prop} (h : p := by repeat (first | exact (zaq HR1_3.out HB.out) | (with_reducible refine zy ?_ _) | (with_reducible refine zz ?_ _) | (with_reducible refine zab ?_))) : p := h
theorem zH48 {p : Prop} (h : p := by repeat (first | exact (zaq HR0_3.out HB.out) | (with_reducible refine zy ?_ _) | (with_reducible refine zz ?_ _) | (with_reducible refine zab ?_))) : p := h
theorem zH49 {p : Prop} (h : p := by repeat (first | exact (zaq HR1.out HB.out) | (with_reducible refine zy ?_ _) | (with_reducible refine zz ?_ _) | (with_reducible refine zab ?_))) : p := h
theorem zH50 {p : Prop} (h : p := by exact (by (with_reducible repeat (first | apply zm | apply zl | apply zn)); exact zr HO154.out (fun _ hk => ⟨hk.1.1.1, ⟨hk.1.2, hk.2⟩⟩))) : p := h
theorem zH51 {p : Prop} (h : p := by repeat (first | exact HR1.out | (with_reducible refine zy ?_ _) | (with_reducible refine zz ?_ _) | (with_reducible refine zab ?_))) : p := h
theorem zH52 {p : Prop} (h : p := by repeat (first | (with_reducible first | exact HB.out | apply zk | apply zf | apply zi | refine zh ?_ GE181.out) | exact HB.out)) : p := h
theorem zH53 {p : Prop} (h : p := by repeat (first | (with_reducible first | exact HK.out | apply Kept.alloc | apply Kept.drewN | apply Kept.drew) | exact HK.out)) : p := h
theorem zH54 {p : Prop} (h : p := by first | exact zat _ _ _ _ _ | exact zau _ _ _ _ _ | exact zav _ _ _ _ _ | exact zaw _ _ _ _ _ | exact zax _ _ _ _ _) : p := h
theorem zH55 {p : Prop} (h : p := by exact ⟨by first | rfl | (simp; done) | (simp [*]; done), by repeat (first | exact Drawn0.refl _ | apply Drawn0.step)⟩) : p := h
theorem zH56 {p : Prop} (h : p := by (with_reducible repeat (first | apply zm | apply zl | apply zn)); exact zr HO313.out (fun _ hk => ⟨hk.1.2, hk.2⟩)) : p := h
theorem zH57 {p : Prop} (h : p := by rw [show t299.length = t281.length from (Kd.R_reads' HO_286003.out).1.symm]; exact (Kd.R_reads' HO_286003.out).2.1) : p := h
theorem zH58 {p : Prop} (h : p := by (with_reducible repeat (first | apply zm | apply zl | apply zn)); exact zr HO274.out (fun _ hk => trivial)) : p := h
theorem zH59 {p : Prop} (h : p := by (with_reducible repeat (first | apply zm | apply zl | apply zn)); exact zr HO_10.out (fun _ hk => trivial)) : p := h
theorem zH60 {p : Prop} (h : p := by (with_reducible repeat (first | apply zm | apply zl | apply zn)); exact zr HO263.out (fun _ hk => hk.2)) : p := h
theorem zH61 {p : Prop} (h : p := by (with_reducible repeat (first | apply zm | apply zl | apply zn)); exact zr HO269.out (fun _ hk => hk.2)) : p := h
theorem zH62 {p : Prop} (h : p := by (with_reducible repeat (first | apply zm | apply zl | apply zn)); exact zr HO277.out (fun _ hk => hk.2)) : p := h
theorem zH63 {p : Prop} (h : p := by (with_reducible repeat (first | apply zm | apply zl | apply zn)); exact zr HO283.out (fun _ hk => hk.2)) : p := h
theorem zH64 {p : Prop} (h : p := by rw [show t297.length = t275.length from (Kd.R_reads' HO_10.out).1.symm]; exact (Kd.R_reads' HO_10.out).2.1) : p := h
theorem zH65 {p : Prop} (h : p := by repeat (first | (with_reducible first | exact HB.out | apply zk | apply zf | apply zi) | exact HB.out)) : p := h
theorem zH66 {p : Prop} (h : p := by exact ⟨_, rfl, zr HR3.out (fun _ h => .inl h.1), BK3.out, HB3.out, HK3.out.mono (fun _ h => h.elim)⟩) : p := h
theorem zH67 {p : Prop} (h : p := by (with_reducible repeat (first | refine zd ?_ _ | refine zg ?_ | refine zb ?_ _)); exact BK101.out) : p := h
theorem zH68 {p : Prop} (h : p := by (with_reducible repeat (first | refine zd ?_ _ | refine zg ?_ | refine zb ?_ _)); exact BK315.out) : p := h
theorem zH69 {p : Prop} (h : p := by (with_reducible repeat (first | refine zd ?_ _ | refine zg ?_ | refine zb ?_ _)); exact BK127.out) : p := h
theorem zH70 {p : Prop} (h : p := by (with_reducible repeat (first | refine zd ?_ _ | refine zg ?_ | refine zb ?_ _)); exact BK128.out) : p := h
theorem zH71 {p : Prop} (h : p := by (with_reducible repeat (first | refine zd ?_ _ | refine zg ?_ | refine zb ?_ _)); exact BK146.out) : p := h
theorem zH72 {p : Prop} (h : p := by (with_reducible repeat (first | refine zd ?_ _ | refine zg ?_ | refine zb ?_ _)); exact BK147.out) : p := h
theorem zH73 {p : Prop} (h : p := by (with_reducible repeat (first | refine zd ?_ _ | refine zg ?_ | refine zb ?_ _)); exact BK148.out) : p := h
theorem zH74 {p : Prop} (h : p := by (with_reducible repeat (first | refine zd ?_ _ | refine zg ?_ | refine zb ?_ _)); exact BK271.out) : p := h
theorem zH75 {p : Prop} (h : p := by (with_reducible repeat (first | refine zd ?_ _ | refine zg ?_ | refine zb ?_ _)); exact BK285.out) : p := h
theorem zH76 {p : Prop} (h : p := by (with_reducible repeat (first | refine zd ?_ _ | refine zg ?_ | refine zb ?_ _)); exact BK0.out) : p := h
theorem zH77 {p : Prop} (h : p := by exact k36_mkM _ _ _ (⟨(rd_T36 l0_3 x8_1).f0, (rd_T36 l0_3 x8_1).f1, (rd_T36 l0_3 x8_1).f2⟩ : S36)) : p := h
theorem zH78 {p : Prop} (h : p := by first | rfl | (simp [errW_none, errW_some] <;> rfl) | (simp [*, errW_none, errW_some] <;> rfl)) : p := h
theorem zH79 {p : Prop} (h : p := by (with_reducible repeat (first | apply zm | apply zl | apply zn)); exact HO_272003.out) : p := h
theorem zH80 {p : Prop} (h : p := by (with_reducible repeat (first | apply zm | apply zl | apply zn)); exact HO_286003.out) : p := h
theorem zH81 {p : Prop} (h : p := by (with_reducible repeat (first | apply zm | apply zl | apply zn)); exact HO_10.out) : p := h
theorem zH82 {p : Prop} (h : p := by (with_reducible repeat (first | apply zm | apply zl | apply zn)); exact HO0_3.out) : p := h
theorem zH83 {p : Prop} (h : p := by (with_reducible repeat (first | apply zm | apply zl | apply zn)); exact HO_6.out) : p := h
theorem zH84 {p : Prop} (h : p := by (with_reducible repeat (first | apply zm | apply zl | apply zn)); exact HO_0.out) : p := h
theorem zH85 {p : Prop} (h : p := by (with_reducible repeat (first | apply zm | apply zl | apply zn)); exact HO0.out) : p := h
theorem zH86 {p : Prop} (h : p := by have := HJ8.out; have := HJ48.out; first | omega | exact Nat.le_refl _) : p := h
theorem zH87 {p : Prop} (h : p := by repeat (first | exact Drawn0.refl _ | apply Drawn0.step)) : p := h
theorem zH88 {p : Prop} (h : p := by have := HJ8.out; first | omega | exact Nat.le_refl _) : p := h
theorem zH89 {p : Prop} (h : p := by first | (go_simp; done) | (go_simp; rfl)) : p := h
theorem zH90 {p : Prop} (h : p := by first | omega | exact Nat.le_refl _) : p := h
theorem zH91 {p : Prop} (h : p := by exact (Kd.R_reads' HO_286003.out).2.1) : p := h
theorem zH92 {p : Prop} (h : p := by exact (Kd.R_reads' HO_10.out).2.1) : p := h
theorem zH93 {p : Prop} (h : p := by exact (Kd.R_reads' HO_6.out).2.1) : p := h
theorem zH94 {p : Prop} (h : p := by have := HK1.out; omega) : p := h
theorem zK95 {p : Prop} (h : p := by (with_reducible repeat (first | refine zd ?_ _ | refine zg ?_ | refine zb ?_ _)); refine zu (cs := #[.int .i64 t278, .int .i64 t279, .int .i64 t280, .slice none 0 0]) ?_ 3 _ rfl; (with_reducible repeat (first | refine zd ?_ _ | refine zg ?_ | refine zb ?_ _)); refine zu (cs := #[.int .i64 t278, .int .i64 t279, .int .i64 0, .slice none 0 0]) ?_ 2 _ rfl; (with_reducible repeat (first | refine zd ?_ _ | refine zg ?_ | refine zb ?_ _)); refine zu (cs := #[.int .i64 t278, .int .i64 0, .int .i64 0, .slice none 0 0]) ?_ 1 _ rfl; (with_reducible repeat (first | refine zd ?_ _ | refine zg ?_ | refine zb ?_ _)); refine zu (cs := #[.int .i64 0, .int .i64 0, .int .i64 0, .slice none 0 0]) ?_ 0 _ rfl; (with_reducible repeat (first | refine zd ?_ _ | refine zg ?_ | refine zb ?_ _)); exact BK285.out) : p := h
theorem zK96 {p : Prop} (h : p := by (with_reducible repeat (first | refine zd ?_ _ | refine zg ?_ | refine zb ?_ _)); refine zu (cs := #[.int .i64 t308, .int .i64 t309, .int .i64 t310, .slice none 0 0]) ?_ 3 _ rfl; (with_reducible repeat (first | refine zd ?_ _ | refine zg ?_ | refine zb ?_ _)); refine zu (cs := #[.int .i64 t308, .int .i64 t309, .int .i64 0, .slice none 0 0]) ?_ 2 _ rfl; (with_reducible repeat (first | refine zd ?_ _ | refine zg ?_ | refine zb ?_ _)); refine zu (cs := #[.int .i64 t308, .int .i64 0, .int .i64 0, .slice none 0 0]) ?_ 1 _ rfl; (with_reducible repeat (first | refine zd ?_ _ | refine zg ?_ | refine zb ?_ _)); refine zu (cs := #[.int .i64 0, .int .i64 0, .int .i64 0, .slice none 0 0]) ?_ 0 _ rfl; (with_reducible repeat (first | refine zd ?_ _ | refine zg ?_ | refine zb ?_ _)); exact BK315.out) : p := h
theorem zK97 {p : Prop} (h : p := by (with_reducible repeat (first | refine zd ?_ _ | refine zg ?_ | refine zb ?_ _)); refine zu (cs := #[.int .i64 a0_0, .int .i64 a0_1, .int .i64 a0_2, .slice none 0 0]) ?_ 3 _ rfl; (with_reducible repeat (first | refine zd ?_ _ | refine zg ?_ | refine zb ?_ _)); refine zu (cs := #[.int .i64 a0_0, .int .i64 a0_1, .int .i64 0, .slice none 0 0]) ?_ 2 _ rfl; (with_reducible repeat (first | refine zd ?_ _ | refine zg ?_ | refine zb ?_ _)); refine zu (cs := #[.int .i64 a0_0, .int .i64 0, .int .i64 0, .slice none 0 0]) ?_ 1 _ rfl; (with_reducible repeat (first | refine zd ?_ _ | refine zg ?_ | refine zb ?_ _)); refine zu (cs := #[.int .i64 0, .int .i64 0, .int .i64 0, .slice none 0 0]) ?_ 0 _ rfl; (with_reducible repeat (first | refine zd ?_ _ | refine zg ?_ | refine zb ?_ _)); exact BK148.out) : p := h
theorem zK98 {p : Prop} (h : p := by (with_reducible repeat (first | refine zd ?_ _ | refine zg ?_ | refine zb ?_ _)); refine zu (cs := #[.int .i64 0, .int .i64 0, .int .i64 0, .slice none 0 0]) ?_ 3 _ rfl; (with_reducible repeat (first | refine zd ?_ _ | refine zg ?_ | refine zb ?_ _)); refine zu (cs := #[.int .i64 0, .int .i64 0, .int .i64 0, .slice none 0 0]) ?_ 2 _ rfl; (with_reducible repeat (first | refine zd ?_ _ | refine zg ?_ | refine zb ?_ _)); refine zu (cs := #[.int .i64 0, .int .i64 0, .int .i64 0, .slice none 0 0]) ?_ 1 _ rfl; (with_reducible repeat (first | refine zd ?_ _ | refine zg ?_ | refine zb ?_ _)); refine zu (cs := #[.int .i64 0, .int .i64 0, .int .i64 0, .slice none 0 0]) ?_ 0 _ rfl; (with_reducible repeat (first | refine zd ?_ _ | refine zg ?_ | refine zb ?_ _)); exact BK181.out) : p := h
theorem zK99 {p : Prop} (h : p := by (with_reducible repeat (first | refine zd ?_ _ | refine zg ?_ | refine zb ?_ _)); refine zu (cs := #[.int .i64 0, .int .i64 0, .int .i64 0, .slice none 0 0]) ?_ 3 _ rfl; (with_reducible repeat (first | refine zd ?_ _ | refine zg ?_ | refine zb ?_ _)); refine zu (cs := #[.int .i64 0, .int .i64 0, .int .i64 0, .slice none 0 0]) ?_ 2 _ rfl; (with_reducible repeat (first | refine zd ?_ _ | refine zg ?_ | refine zb ?_ _)); refine zu (cs := #[.int .i64 0, .int .i64 0, .int .i64 0, .slice none 0 0]) ?_ 1 _ rfl; (with_reducible repeat (first | refine zd ?_ _ | refine zg ?_ | refine zb ?_ _)); refine zu (cs := #[.int .i64 0, .int .i64 0, .int .i64 0, .slice none 0 0]) ?_ 0 _ rfl; (with_reducible repeat (first | refine zd ?_ _ | refine zg ?_ | refine zb ?_ _)); exact BK108.out) : p := h
theorem zK100 {p : Prop} (h : p := by (with_reducible repeat (first | refine zd ?_ _ | refine zg ?_ | refine zb ?_ _)); refine zu (cs := #[.int .i64 ((rd_T36 l0_3 x8_1).f0), .int .i64 ((rd_T36 l0_3 x8_1).f1), .int .i64 0]) ?_ 2 _ rfl; (with_reducible repeat (first | refine zd ?_ _ | refine zg ?_ | refine zb ?_ _)); refine zu (cs := #[.int .i64 ((rd_T36 l0_3 x8_1).f0), .int .i64 0, .int .i64 0]) ?_ 1 _ rfl; (with_reducible repeat (first | refine zd ?_ _ | refine zg ?_ | refine zb ?_ _)); refine zu (cs := #[.int .i64 0, .int .i64 0, .int .i64 0]) ?_ 0 _ rfl; (with_reducible repeat (first | refine zd ?_ _ | refine zg ?_ | refine zb ?_ _)); exact BK133.out) : p := h
theorem zK101 {p : Prop} (h : p := by first | exact Nat.ne_of_lt (Nat.lt_of_lt_of_le (by have := zj _ _ hw196_0; first | rwa [add_block] at this | exact this) GW204.out) | (rw [add_block]; exact Nat.ne_of_lt (Nat.lt_of_lt_of_le (by have := zj _ _ hw196_0; first | rwa [add_block] at this | exact this) GW204.out)) | (show (Addr.add _ _).block ≠ _; rw [add_block]; exact Nat.ne_of_lt (Nat.lt_of_lt_of_le (by have := zj _ _ hw196_0; first | rwa [add_block] at this | exact this) GW204.out)) | (dsimp only; exact Nat.ne_of_lt (Nat.lt_of_lt_of_le (by have := zj _ _ hw196_0; first | rwa [add_block] at this | exact this) GW204.out))) : p := h
theorem zK102 {p : Prop} (h : p := by first | exact Nat.ne_of_lt (Nat.lt_of_lt_of_le (by have := zj _ _ hw196_1; first | rwa [add_block] at this | exact this) GW204.out) | (rw [add_block]; exact Nat.ne_of_lt (Nat.lt_of_lt_of_le (by have := zj _ _ hw196_1; first | rwa [add_block] at this | exact this) GW204.out)) | (show (Addr.add _ _).block ≠ _; rw [add_block]; exact Nat.ne_of_lt (Nat.lt_of_lt_of_le (by have := zj _ _ hw196_1; first | rwa [add_block] at this | exact this) GW204.out)) | (dsimp only; exact Nat.ne_of_lt (Nat.lt_of_lt_of_le (by have := zj _ _ hw196_1; first | rwa [add_block] at this | exact this) GW204.out))) : p := h
theorem zK103 {p : Prop} (h : p := by first | exact Nat.ne_of_lt (Nat.lt_of_lt_of_le (by have := zj _ _ hw196_2; first | rwa [add_block] at this | exact this) GW204.out) | (rw [add_block]; exact Nat.ne_of_lt (Nat.lt_of_lt_of_le (by have := zj _ _ hw196_2; first | rwa [add_block] at this | exact this) GW204.out)) | (show (Addr.add _ _).block ≠ _; rw [add_block]; exact Nat.ne_of_lt (Nat.lt_of_lt_of_le (by have := zj _ _ hw196_2; first | rwa [add_block] at this | exact this) GW204.out)) | (dsimp only; exact Nat.ne_of_lt (Nat.lt_of_lt_of_le (by have := zj _ _ hw196_2; first | rwa [add_block] at this | exact this) GW204.out))) : p := h
theorem zK104 {p : Prop} (h : p := by first | exact Nat.ne_of_lt (Nat.lt_of_lt_of_le (by have := zj _ _ hw196_3; first | rwa [add_block] at this | exact this) GW204.out) | (rw [add_block]; exact Nat.ne_of_lt (Nat.lt_of_lt_of_le (by have := zj _ _ hw196_3; first | rwa [add_block] at this | exact this) GW204.out)) | (show (Addr.add _ _).block ≠ _; rw [add_block]; exact Nat.ne_of_lt (Nat.lt_of_lt_of_le (by have := zj _ _ hw196_3; first | rwa [add_block] at this | exact this) GW204.out)) | (dsimp only; exact Nat.ne_of_lt (Nat.lt_of_lt_of_le (by have := zj _ _ hw196_3; first | rwa [add_block] at this | exact this) GW204.out))) : p := h
theorem zK105 {p : Prop} (h : p := by (with_reducible repeat (first | refine zd ?_ _ | refine zg ?_ | refine zb ?_ _)); refine zv ?_ NB271_285.out _; (with_reducible repeat (first | refine zd ?_ _ | refine zg ?_ | refine zb ?_ _)); refine zv ?_ NB271_285.out _; (with_reducible repeat (first | refine zd ?_ _ | refine zg ?_ | refine zb ?_ _)); refine zv ?_ NB271_285.out _; (with_reducible repeat (first | refine zd ?_ _ | refine zg ?_ | refine zb ?_ _)); refine zv ?_ NB271_285.out _; (with_reducible repeat (first | refine zd ?_ _ | refine zg ?_ | refine zb ?_ _)); exact BK271.out) : p := h
theorem zK106 {p : Prop} (h : p := by (with_reducible repeat (first | refine zd ?_ _ | refine zg ?_ | refine zb ?_ _)); refine zv ?_ NB271_315.out _; (with_reducible repeat (first | refine zd ?_ _ | refine zg ?_ | refine zb ?_ _)); refine zv ?_ NB271_315.out _; (with_reducible repeat (first | refine zd ?_ _ | refine zg ?_ | refine zb ?_ _)); refine zv ?_ NB271_315.out _; (with_reducible repeat (first | refine zd ?_ _ | refine zg ?_ | refine zb ?_ _)); refine zv ?_ NB271_315.out _; (with_reducible repeat (first | refine zd ?_ _ | refine zg ?_ | refine zb ?_ _)); exact BK271.out) : p := h
theorem zK107 {p : Prop} (h : p := by (with_reducible repeat (first | refine zd ?_ _ | refine zg ?_ | refine zb ?_ _)); refine zv ?_ NB285_315.out _; (with_reducible repeat (first | refine zd ?_ _ | refine zg ?_ | refine zb ?_ _)); refine zv ?_ NB285_315.out _; (with_reducible repeat (first | refine zd ?_ _ | refine zg ?_ | refine zb ?_ _)); refine zv ?_ NB285_315.out _; (with_reducible repeat (first | refine zd ?_ _ | refine zg ?_ | refine zb ?_ _)); refine zv ?_ NB285_315.out _; (with_reducible repeat (first | refine zd ?_ _ | refine zg ?_ | refine zb ?_ _)); exact BK285.out) : p := h
theorem zK108 {p : Prop} (h : p := by (with_reducible repeat (first | refine zd ?_ _ | refine zg ?_ | refine zb ?_ _)); refine zv ?_ NB127_133.out _; (with_reducible repeat (first | refine zd ?_ _ | refine zg ?_ | refine zb ?_ _)); refine zv ?_ NB127_133.out _; (with_reducible repeat (first | refine zd ?_ _ | refine zg ?_ | refine zb ?_ _)); refine zv ?_ NB127_133.out _; (with_reducible repeat (first | refine zd ?_ _ | refine zg ?_ | refine zb ?_ _)); exact BK127.out) : p := h
theorem zK109 {p : Prop} (h : p := by (with_reducible repeat (first | refine zd ?_ _ | refine zg ?_ | refine zb ?_ _)); refine zv ?_ NB128_133.out _; (with_reducible repeat (first | refine zd ?_ _ | refine zg ?_ | refine zb ?_ _)); refine zv ?_ NB128_133.out _; (with_reducible repeat (first | refine zd ?_ _ | refine zg ?_ | refine zb ?_ _)); refine zv ?_ NB128_133.out _; (with_reducible repeat (first | refine zd ?_ _ | refine zg ?_ | refine zb ?_ _)); exact BK128.out) : p := h
theorem zK110 {p : Prop} (h : p := by (with_reducible repeat (first | apply zm | apply zl | apply zn)); exact (zr (zo (p := ⟨gb315, 3, none⟩) (zo (p := ⟨gb315, 2, none⟩) (zo (p := ⟨gb315, 1, none⟩) (zo (p := ⟨gb315, 0, none⟩) (zw HO_272003.out BK315.out zG89) (fun _ hk => hk.2) (.int .i64 t308)) (fun _ hk => hk.2) (.int .i64 t309)) (fun _ hk => hk.2) (.int .i64 t310)) (fun _ hk => hk.2) (.slice Ao115 t311.length co115)) (fun _ h_ => h_.1))) : p := h
theorem zK111 {p : Prop} (h : p := by (with_reducible repeat (first | apply zm | apply zl | apply zn)); exact (zr (zo (p := ⟨gb315, 3, none⟩) (zo (p := ⟨gb315, 2, none⟩) (zo (p := ⟨gb315, 1, none⟩) (zo (p := ⟨gb315, 0, none⟩) (zw HO_286003.out BK315.out zG89) (fun _ hk => hk.2) (.int .i64 t308)) (fun _ hk => hk.2) (.int .i64 t309)) (fun _ hk => hk.2) (.int .i64 t310)) (fun _ hk => hk.2) (.slice Ao115 t311.length co115)) (fun _ h_ => h_.1))) : p := h
theorem zK112 {p : Prop} (h : p := by (with_reducible repeat (first | apply zm | apply zl | apply zn)); exact (zr (zo (p := ⟨gb315, 3, none⟩) (zo (p := ⟨gb315, 2, none⟩) (zo (p := ⟨gb315, 1, none⟩) (zo (p := ⟨gb315, 0, none⟩) (zw HO307.out BK315.out zG89) (fun _ hk => hk.2) (.int .i64 t308)) (fun _ hk => hk.2) (.int .i64 t309)) (fun _ hk => hk.2) (.int .i64 t310)) (fun _ hk => hk.2) (.slice Ao115 t311.length co115)) (fun _ h_ => h_.1))) : p := h
theorem zK113 {p : Prop} (h : p := by (with_reducible repeat (first | apply zm | apply zl | apply zn)); exact (zr (zo (p := ⟨gb315, 3, none⟩) (zo (p := ⟨gb315, 2, none⟩) (zo (p := ⟨gb315, 1, none⟩) (zo (p := ⟨gb315, 0, none⟩) (zw HO_10.out BK315.out zG89) (fun _ hk => hk.2) (.int .i64 t308)) (fun _ hk => hk.2) (.int .i64 t309)) (fun _ hk => hk.2) (.int .i64 t310)) (fun _ hk => hk.2) (.slice Ao115 t311.length co115)) (fun _ h_ => h_.1))) : p := h
theorem zK114 {p : Prop} (h : p := by (with_reducible repeat (first | apply zm | apply zl | apply zn)); exact (zr (zo (p := ⟨gb315, 3, none⟩) (zo (p := ⟨gb315, 2, none⟩) (zo (p := ⟨gb315, 1, none⟩) (zo (p := ⟨gb315, 0, none⟩) (zw HO304.out BK315.out zG89) (fun _ hk => hk.2) (.int .i64 t308)) (fun _ hk => hk.2) (.int .i64 t309)) (fun _ hk => hk.2) (.int .i64 t310)) (fun _ hk => hk.2) (.slice Ao115 t311.length co115)) (fun _ h_ => h_.1))) : p := h
theorem zK115 {p : Prop} (h : p := by (with_reducible repeat (first | apply zm | apply zl | apply zn)); exact (zr (zo (p := ⟨gb315, 3, none⟩) (zo (p := ⟨gb315, 2, none⟩) (zo (p := ⟨gb315, 1, none⟩) (zo (p := ⟨gb315, 0, none⟩) (zw HO313.out BK315.out zG89) (fun _ hk => hk.2) (.int .i64 t308)) (fun _ hk => hk.2) (.int .i64 t309)) (fun _ hk => hk.2) (.int .i64 t310)) (fun _ hk => hk.2) (.slice Ao115 t311.length co115)) (fun _ h_ => h_.1))) : p := h
theorem zK116 {p : Prop} (h : p := by (with_reducible repeat (first | apply zm | apply zl | apply zn)); exact (zr (zo (p := ⟨gb315, 3, none⟩) (zo (p := ⟨gb315, 2, none⟩) (zo (p := ⟨gb315, 1, none⟩) (zo (p := ⟨gb315, 0, none⟩) (zw HO_6.out BK315.out zG89) (fun _ hk => hk.2) (.int .i64 t308)) (fun _ hk => hk.2) (.int .i64 t309)) (fun _ hk => hk.2) (.int .i64 t310)) (fun _ hk => hk.2) (.slice Ao115 t311.length co115)) (fun _ h_ => h_.1))) : p := h
theorem zK117 {p : Prop} (h : p := by (with_reducible repeat (first | apply zm | apply zl | apply zn)); exact (zr (zo (p := ⟨gb271, 3, none⟩) (zo (p := ⟨gb271, 2, none⟩) (zo (p := ⟨gb271, 1, none⟩) (zo (p := ⟨gb271, 0, none⟩) (zw HO260.out BK271.out zG89) (fun _ hk => hk.2) (.int .i64 t264)) (fun _ hk => hk.2) (.int .i64 t265)) (fun _ hk => hk.2) (.int .i64 t266)) (fun _ hk => hk.2) (.slice Ao15 t267.length co15)) (fun _ h_ => h_.1))) : p := h
theorem zK118 {p : Prop} (h : p := by (with_reducible repeat (first | apply zm | apply zl | apply zn)); exact (zr (zo (p := ⟨gb285, 3, none⟩) (zo (p := ⟨gb285, 2, none⟩) (zo (p := ⟨gb285, 1, none⟩) (zo (p := ⟨gb285, 0, none⟩) (zw HO277.out BK285.out zG89) (fun _ hk => hk.2) (.int .i64 t278)) (fun _ hk => hk.2) (.int .i64 t279)) (fun _ hk => hk.2) (.int .i64 t280)) (fun _ hk => hk.2) (.slice Ao22 t281.length co22)) (fun _ h_ => h_.1))) : p := h
theorem zK119 {p : Prop} (h : p := by (with_reducible repeat (first | apply zm | apply zl | apply zn)); exact (zr (zo (p := ⟨gb285, 3, none⟩) (zo (p := ⟨gb285, 2, none⟩) (zo (p := ⟨gb285, 1, none⟩) (zo (p := ⟨gb285, 0, none⟩) (zw HO263.out BK285.out zG89) (fun _ hk => hk.2) (.int .i64 t278)) (fun _ hk => hk.2) (.int .i64 t279)) (fun _ hk => hk.2) (.int .i64 t280)) (fun _ hk => hk.2) (.slice Ao22 t281.length co22)) (fun _ h_ => h_.1))) : p := h
theorem zK120 {p : Prop} (h : p := by (with_reducible repeat (first | apply zm | apply zl | apply zn)); exact (zr (zo (p := ⟨gb285, 3, none⟩) (zo (p := ⟨gb285, 2, none⟩) (zo (p := ⟨gb285, 1, none⟩) (zo (p := ⟨gb285, 0, none⟩) (zw HO260.out BK285.out zG89) (fun _ hk => hk.2) (.int .i64 t278)) (fun _ hk => hk.2) (.int .i64 t279)) (fun _ hk => hk.2) (.int .i64 t280)) (fun _ hk => hk.2) (.slice Ao22 t281.length co22)) (fun _ h_ => h_.1))) : p := h
theorem zK121 {p : Prop} (h : p := by (with_reducible repeat (first | apply zm | apply zl | apply zn)); exact (zr (zo (p := ⟨gb285, 3, none⟩) (zo (p := ⟨gb285, 2, none⟩) (zo (p := ⟨gb285, 1, none⟩) (zo (p := ⟨gb285, 0, none⟩) (zw HO269.out BK285.out zG89) (fun _ hk => hk.2) (.int .i64 t278)) (fun _ hk => hk.2) (.int .i64 t279)) (fun _ hk => hk.2) (.int .i64 t280)) (fun _ hk => hk.2) (.slice Ao22 t281.length co22)) (fun _ h_ => h_.1))) : p := h
theorem zK122 {p : Prop} (h : p := by (with_reducible repeat (first | apply zm | apply zl | apply zn)); exact (zr (zo (p := ⟨gb285, 3, none⟩) (zo (p := ⟨gb285, 2, none⟩) (zo (p := ⟨gb285, 1, none⟩) (zo (p := ⟨gb285, 0, none⟩) (zw HO274.out BK285.out zG89) (fun _ hk => hk.2) (.int .i64 t278)) (fun _ hk => hk.2) (.int .i64 t279)) (fun _ hk => hk.2) (.int .i64 t280)) (fun _ hk => hk.2) (.slice Ao22 t281.length co22)) (fun _ h_ => h_.1))) : p := h
theorem zK123 {p : Prop} (h : p := by (with_reducible repeat (first | apply zm | apply zl | apply zn)); exact (zr (zo (p := ⟨gb285, 3, none⟩) (zo (p := ⟨gb285, 2, none⟩) (zo (p := ⟨gb285, 1, none⟩) (zo (p := ⟨gb285, 0, none⟩) (zw HO283.out BK285.out zG89) (fun _ hk => hk.2) (.int .i64 t278)) (fun _ hk => hk.2) (.int .i64 t279)) (fun _ hk => hk.2) (.int .i64 t280)) (fun _ hk => hk.2) (.slice Ao22 t281.length co22)) (fun _ h_ => h_.1))) : p := h
theorem zK124 {p : Prop} (h : p := by first | exact HK.out.1 | exact (show Kept w _ (fun k_ => P0_3_ k_) from by repeat (first | (with_reducible first | exact HK.out | apply Kept.alloc | apply Kept.drewN | apply Kept.drew | refine Kept.setCell ?_ (.inr GW146.out) _ | refine Kept.setCell ?_ (.inr GW147.out) _) | exact HK.out)).1) : p := h
theorem zK125 {p : Prop} (h : p := by first | exact HK.out.1 | exact (show Kept w _ (fun k_ => P0_3_ k_) from by repeat (first | (with_reducible first | exact HK.out | apply Kept.alloc | apply Kept.drewN | apply Kept.drew | refine Kept.setCell ?_ (.inr GW146.out) _) | exact HK.out)).1) : p := h
theorem zK126 {p : Prop} (h : p := by (try simp only [List.map_toArray, List.map_cons, List.map_nil]); first | done | (rw [show t299.length = t281.length from (Kd.R_reads' HO_286003.out).1.symm] <;> rfl) | rfl | (simp only [List.length_drop, List.length_take]; rfl)) : p := h
theorem zK127 {p : Prop} (h : p := by (try simp only [List.map_toArray, List.map_cons, List.map_nil]); first | done | (rw [show t297.length = t275.length from (Kd.R_reads' HO_10.out).1.symm] <;> rfl) | rfl | (simp only [List.length_drop, List.length_take]; rfl)) : p := h
theorem zK128 {p : Prop} (h : p := by repeat (first | (with_reducible first | exact HK.out | apply Kept.alloc | apply Kept.drewN | apply Kept.drew | refine Kept.setCell ?_ (.inr GW146.out) _ | refine Kept.setCell ?_ (.inr GW147.out) _) | exact HK.out)) : p := h
theorem zK129 {p : Prop} (h : p := by (with_reducible repeat (first | apply zm | apply zl | apply zn)); exact (zr (zo (p := ⟨gb146, 0, none⟩) (zw HO_147003.out BK146.out zG89) (fun _ hk => hk.2) (.int .i64 (wrap64 (a0_0 + a1_3)))) (fun _ h_ => h_.1))) : p := h
theorem zK130 {p : Prop} (h : p := by first | exact HK.out.1 | exact (show Kept w _ (fun k_ => P0_3_ k_) from by repeat (first | (with_reducible first | exact HK.out | apply Kept.alloc | apply Kept.drewN | apply Kept.drew) | exact HK.out)).1) : p := h
theorem zK131 {p : Prop} (h : p := by repeat (first | (with_reducible first | exact HB.out | apply zk | apply zf | apply zi | refine zh ?_ GE271.out | refine zh ?_ GE285.out | refine zh ?_ GE315.out) | exact HB.out)) : p := h
theorem zK132 {p : Prop} (h : p := by repeat (first | (with_reducible first | exact HB.out | apply zk | apply zf | apply zi | refine zh ?_ GE181.out | refine zh ?_ GE192.out | refine zh ?_ GE204.out) | exact HB.out)) : p := h
theorem zK133 {p : Prop} (h : p := by repeat (first | (with_reducible first | exact HB.out | apply zk | apply zf | apply zi | refine zh ?_ GE108.out | refine zh ?_ GE114.out | refine zh ?_ GE116.out) | exact HB.out)) : p := h
theorem zK134 {p : Prop} (h : p := by repeat (first | (with_reducible first | exact HK.out | apply Kept.alloc | apply Kept.drewN | apply Kept.drew | refine Kept.setCell ?_ (.inr GW146.out) _) | exact HK.out)) : p := h
theorem zK135 {p : Prop} (h : p := by repeat (first | (with_reducible first | exact HB.out | apply zk | apply zf | apply zi | refine zh ?_ GE181.out | refine zh ?_ GE192.out) | exact HB.out)) : p := h
theorem zK136 {p : Prop} (h : p := by repeat (first | (with_reducible first | exact HB.out | apply zk | apply zf | apply zi | refine zh ?_ GE208.out | refine zh ?_ GE209.out) | exact HB.out)) : p := h
theorem zK137 {p : Prop} (h : p := by repeat (first | (with_reducible first | exact HB.out | apply zk | apply zf | apply zi | refine zh ?_ GE230.out | refine zh ?_ GE231.out) | exact HB.out)) : p := h
theorem zK138 {p : Prop} (h : p := by repeat (first | (with_reducible first | exact HB.out | apply zk | apply zf | apply zi | refine zh ?_ GE108.out | refine zh ?_ GE114.out) | exact HB.out)) : p := h
theorem zK139 {p : Prop} (h : p := by repeat (first | (with_reducible first | exact HB.out | apply zk | apply zf | apply zi | refine zh ?_ GE146.out | refine zh ?_ GE147.out) | exact HB.out)) : p := h
theorem zK140 {p : Prop} (h : p := by repeat (first | (with_reducible first | exact HB.out | apply zk | apply zf | apply zi | refine zh ?_ GE0.out | refine zh ?_ GE101.out) | exact HB.out)) : p := h
theorem zK141 {p : Prop} (h : p := by repeat (first | (with_reducible first | exact HB.out | apply zk | apply zf | apply zi | refine zh ?_ GE271.out) | exact HB.out)) : p := h
theorem zK142 {p : Prop} (h : p := by repeat (first | (with_reducible first | exact HB.out | apply zk | apply zf | apply zi | refine zh ?_ GE208.out) | exact HB.out)) : p := h
theorem zK143 {p : Prop} (h : p := by repeat (first | (with_reducible first | exact HB.out | apply zk | apply zf | apply zi | refine zh ?_ GE220.out) | exact HB.out)) : p := h
theorem zK144 {p : Prop} (h : p := by repeat (first | (with_reducible first | exact HB.out | apply zk | apply zf | apply zi | refine zh ?_ GE127.out) | exact HB.out)) : p := h
theorem zK145 {p : Prop} (h : p := by repeat (first | (with_reducible first | exact HB.out | apply zk | apply zf | apply zi | refine zh ?_ GE146.out) | exact HB.out)) : p := h
theorem zK146 {p : Prop} (h : p := by (with_reducible repeat (first | apply zm | apply zl | apply zn)); exact zr HO_147003.out (fun _ hk => ⟨hk.1.1, ⟨hk.2, hk.1.2⟩⟩)) : p := h
theorem zK147 {p : Prop} (h : p := by repeat (first | (with_reducible first | exact HB.out | apply zk | apply zf | apply zi | refine zh ?_ GE0.out) | exact HB.out)) : p := h
theorem zK148 {p : Prop} (h : p := by (with_reducible repeat (first | apply zm | apply zl | apply zn)); exact zr HO160.out (fun _ hk => ⟨⟨hk.1.1.1, hk.1.2⟩, hk.2⟩)) : p := h
theorem zK149 {p : Prop} (h : p := by (with_reducible repeat (first | apply zm | apply zl | apply zn)); exact zr HO157.out (fun _ hk => ⟨hk.1, ⟨hk.2.2, hk.2.1⟩⟩)) : p := h
theorem zK150 {p : Prop} (h : p := by (with_reducible repeat (first | apply zm | apply zl | apply zn)); exact zr HO160.out (fun _ hk => ⟨hk.1.1, ⟨hk.2, hk.1.2⟩⟩)) : p := h
theorem zK151 {p : Prop} (h : p := by (with_reducible repeat (first | refine zd ?_ _ | refine zg ?_ | refine zb ?_ _)); exact BK315.out) : p := h
theorem zK152 {p : Prop} (h : p := by (with_reducible repeat (first | refine zd ?_ _ | refine zg ?_ | refine zb ?_ _)); exact BK192.out) : p := h
theorem zK153 {p : Prop} (h : p := by (with_reducible repeat (first | refine zd ?_ _ | refine zg ?_ | refine zb ?_ _)); exact BK204.out) : p := h
theorem zK154 {p : Prop} (h : p := by (with_reducible repeat (first | refine zd ?_ _ | refine zg ?_ | refine zb ?_ _)); exact BK208.out) : p := h
theorem zK155 {p : Prop} (h : p := by (with_reducible repeat (first | refine zd ?_ _ | refine zg ?_ | refine zb ?_ _)); exact BK209.out) : p := h
theorem zK156 {p : Prop} (h : p := by (with_reducible repeat (first | refine zd ?_ _ | refine zg ?_ | refine zb ?_ _)); exact BK220.out) : p := h
theorem zK157 {p : Prop} (h : p := by (with_reducible repeat (first | refine zd ?_ _ | refine zg ?_ | refine zb ?_ _)); exact BK225.out) : p := h
theorem zK158 {p : Prop} (h : p := by (with_reducible repeat (first | refine zd ?_ _ | refine zg ?_ | refine zb ?_ _)); exact BK114.out) : p := h
theorem zK159 {p : Prop} (h : p := by simp only [putAll, Act.put, List.setIfInBounds_toArray, List.set_cons_zero, List.set_cons_succ]) : p := h
theorem zK160 {p : Prop} (h : p := by (with_reducible repeat (first | refine zd ?_ _ | refine zg ?_ | refine zb ?_ _)); exact BK0.out) : p := h
theorem zK161 {p : Prop} (h : p := by (with_reducible repeat (first | apply zm | apply zl | apply zn)); exact HO_316003.out) : p := h
theorem zK162 {p : Prop} (h : p := by (with_reducible repeat (first | apply zm | apply zl | apply zn)); exact HO260.out) : p := h
theorem zK163 {p : Prop} (h : p := by (with_reducible repeat (first | apply zm | apply zl | apply zn)); exact HO263.out) : p := h
theorem zK164 {p : Prop} (h : p := by (with_reducible repeat (first | apply zm | apply zl | apply zn)); exact HO269.out) : p := h
theorem zK165 {p : Prop} (h : p := by (with_reducible repeat (first | apply zm | apply zl | apply zn)); exact HO274.out) : p := h
theorem zK166 {p : Prop} (h : p := by (with_reducible repeat (first | apply zm | apply zl | apply zn)); exact HO277.out) : p := h
theorem zK167 {p : Prop} (h : p := by (with_reducible repeat (first | apply zm | apply zl | apply zn)); exact HO283.out) : p := h
theorem zK168 {p : Prop} (h : p := by (with_reducible repeat (first | apply zm | apply zl | apply zn)); exact HO290.out) : p := h
theorem zK169 {p : Prop} (h : p := by (with_reducible repeat (first | apply zm | apply zl | apply zn)); exact HO304.out) : p := h
theorem zK170 {p : Prop} (h : p := by (with_reducible repeat (first | apply zm | apply zl | apply zn)); exact HO307.out) : p := h
theorem zK171 {p : Prop} (h : p := by (with_reducible repeat (first | apply zm | apply zl | apply zn)); exact HO313.out) : p := h
theorem zK172 {p : Prop} (h : p := by (with_reducible repeat (first | apply zm | apply zl | apply zn)); exact HO202.out) : p := h
theorem zK173 {p : Prop} (h : p := by (with_reducible repeat (first | apply zm | apply zl | apply zn)); exact HO0_3.out) : p := h
theorem zK174 {p : Prop} (h : p := by (with_reducible repeat (first | apply zm | apply zl | apply zn)); exact HO169.out) : p := h
theorem zK175 {p : Prop} (h : p := by (with_reducible repeat (first | apply zm | apply zl | apply zn)); exact HO_9.out) : p := h
theorem zK176 {p : Prop} (h : p := by (with_reducible repeat (first | apply zm | apply zl | apply zn)); exact HO_8.out) : p := h
theorem zK177 {p : Prop} (h : p := by (with_reducible repeat (first | apply zm | apply zl | apply zn)); exact HO_0.out) : p := h
theorem zK178 {p : Prop} (h : p := by first | (go_simp; done) | (go_simp; rfl)) : p := h
end Go.Proofs.Ytdohpbhljifodaa.C
