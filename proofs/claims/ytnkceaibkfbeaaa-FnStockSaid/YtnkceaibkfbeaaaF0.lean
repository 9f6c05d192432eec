-- squeezed
-- made by pp.py (wip/tools) out of the translation; Lean checks it
import Derived.Test.YtnkceaibkfbeaaaProg
import Derived.Below
import Derived.Deep.Draws
import Derived.Deep.AppendLies
import Derived.Maps.AppendAt
import Derived.OwnWalk
import Derived.Laws.BytesArg
import Derived.Laws.MakeOwn
import Derived.Laws.OwnMore
import Derived.Deep.OwnRows
import Derived.Tactics
import Derived.Lib.ConvBytes
import Derived.Laws.Slices
import Derived.WalkKit
import Derived.KernelRfl
import Derived.RowKit3
import Derived.Deep.LoopGhost
import Derived.Deep.QuietTactic
import Derived.BigQuiet
import Derived.WideLaws
import Derived.Deep.DeepCutAuto
import Derived.Deep.CutBlock
import Derived.Deep.RegionHeld3
import Derived.Laws.Rows
import Derived.Lib.AppendStr
import Derived.ArgAppend
import Derived.Laws.IdiomCopy
import Derived.OrdersHeld
import Derived.Laws.BitsLemmas
import Derived.RowKit
import Derived.Test.YtnkceaibkfbeaaaFloat
import Derived.Test.YtnkceaibkfbeaaaWWords
import Derived.Test.YtnkceaibkfbeaaaWLast
import Derived.Test.YtnkceaibkfbeaaaWTab
import Derived.Test.YtnkceaibkfbeaaaWFour
import Derived.Test.YtnkceaibkfbeaaaWQPut
import Derived.Test.YtnkceaibkfbeaaaWApart
import Derived.Test.YtnkceaibkfbeaaaWArr
import Derived.Test.YtnkceaibkfbeaaaWZeros
import Derived.Test.YtnkceaibkfbeaaaWFoot
import Derived.Test.YtnkceaibkfbeaaaWKept
import Derived.Test.YtnkceaibkfbeaaaWShare
import Derived.Test.YtnkceaibkfbeaaaWN
import Derived.Test.YtnkceaibkfbeaaaWFootNe
import Derived.Test.YtnkceaibkfbeaaaWAt
import Derived.Test.YtnkceaibkfbeaaaWEqStruct
import Derived.Test.YtnkceaibkfbeaaaWRepsOne
import Derived.Test.YtnkceaibkfbeaaaWInv
import Derived.Test.YtnkceaibkfbeaaaWInvWords
import Derived.Test.YtnkceaibkfbeaaaWGuard
import Derived.Test.YtnkceaibkfbeaaaWNEv
import Derived.Test.YtnkceaibkfbeaaaWMore
namespace Go.Proofs.Ytnkceaibkfbeaaa.F
open Go.RowKit Go.Proofs.YtnkceaibkfbeaaaW.PrintWords Go.Proofs.YtnkceaibkfbeaaaW.PrintLast Go.Proofs.YtnkceaibkfbeaaaW.PrintMore
attribute [local go_sem] max2_int min2_int max_two min_two max_three min_three max_four min_four   -- for this text's walks alone
set_option linter.unusedVariables false
set_option linter.unusedSimpArgs false
abbrev zs6 (a : Int) (b : Int) (c : Int) (d : Int) (e : Int) (f : Value) : Array Value := #[.int .i64 a, .int .i64 b, .int .i64 c, .int .i64 d, .int .i64 e, f]
abbrev za5 (a : Int) (b : ByteArray) (c : Int) (d : Int) (e : Int) : Array Value := #[.int .i64 a, .string b, .int .i64 c, .int .i64 d, .int .i64 e]
abbrev zl5 (a : ByteArray) (b : Int) (c : Int) (d : Int) (e : Bool) : Array Value := #[.string a, .int .i64 b, .int .i64 c, .int .i64 d, .bool e]
abbrev zo2 (a : Int) (b : Int) : Array Value := #[.int .i64 a, .int .i64 b]




def errW : Option Int → Value
 | none => .nilIface
 | some c => .iface 0 (.int .i64 c)
theorem errW_none : errW none = .nilIface := rfl
theorem errW_some (c : Int) : errW (some c) = .iface 0 (.int .i64 c) := rfl

theorem info3 : (Try.prog.info? 3).map (fun i => (i.zero, i.size, i.bytes)) = some (some (.int .i64 0), 1, 8) := by kernel_rfl
theorem info9 : (Try.prog.info? 9).map (fun i => (i.zero, i.size, i.bytes)) = some (some (.string ⟨#[]⟩), 1, 16) := by kernel_rfl
theorem info34 : (Try.prog.info? 34).map (fun i => (i.zero, i.size, i.bytes)) = some (some (.agg #[(.int .i64 0), (.string ⟨#[]⟩), (.int .i64 0), (.int .i64 0), (.int .i64 0)]), 5, 48) := by kernel_rfl
theorem info36 : (Try.prog.info? 36).map (fun i => (i.zero, i.size, i.bytes)) = some (some (.agg #[(.int .i64 0), (.int .i64 0)]), 2, 16) := by kernel_rfl
theorem info38 : (Try.prog.info? 38).map (fun i => (i.zero, i.size, i.bytes)) = some (some (.agg #[(.string ⟨#[]⟩), (.int .i64 0), (.int .i64 0), (.int .i64 0), (.bool false)]), 5, 48) := by kernel_rfl
-- the values' own types
/-! #### struct type 34 -/
structure S34 where
 f0 : Int
 f1 : ByteArray
 f2 : Int
 f3 : Int
 f4 : Int
def z34 : S34 := ⟨(0 : Int), (⟨#[]⟩ : ByteArray), (0 : Int), (0 : Int), (0 : Int)⟩
def k34 : Kd S34 := Kd.iso (Kd.pair (Kd.int .i64) (Kd.pair Kd.string (Kd.pair (Kd.int .i64) (Kd.pair (Kd.int .i64) (Kd.int .i64))))) (fun x : S34 => (x.f0, x.f1, x.f2, x.f3, x.f4))
theorem k34_open {w : World} {x : S34} {cs : List Value} (h : k34.K w x cs) : cs = [.int .i64 x.f0, .string x.f1, .int .i64 x.f2, .int .i64 x.f3, .int .i64 x.f4] := by
 obtain ⟨_, _, rfl, rfl, ⟨_, _, rfl, rfl, ⟨_, _, rfl, rfl, ⟨_, _, rfl, rfl, rfl⟩⟩⟩⟩ := h
 exact rfl
theorem k34_openM {w : World} {base : Nat} {ok : Nat → Prop} {x : S34} {cs : List Value} (h : k34.M w base ok x cs) : cs = [.int .i64 x.f0, .string x.f1, .int .i64 x.f2, .int .i64 x.f3, .int .i64 x.f4] := by
 obtain ⟨_, _, rfl, rfl, ⟨_, _, rfl, rfl, ⟨_, _, rfl, rfl, ⟨_, _, rfl, rfl, rfl⟩⟩⟩⟩ := h
 exact rfl
theorem k34_mk (w : World) (x : S34)  : k34.K w x [.int .i64 x.f0, .string x.f1, .int .i64 x.f2, .int .i64 x.f3, .int .i64 x.f4] := ⟨[.int .i64 x.f0], [.string x.f1, .int .i64 x.f2, .int .i64 x.f3, .int .i64 x.f4], rfl, rfl, ⟨[.string x.f1], [.int .i64 x.f2, .int .i64 x.f3, .int .i64 x.f4], rfl, rfl, ⟨[.int .i64 x.f2], [.int .i64 x.f3, .int .i64 x.f4], rfl, rfl, ⟨[.int .i64 x.f3], [.int .i64 x.f4], rfl, rfl, rfl⟩⟩⟩⟩
theorem k34_mkM (w : World) (base : Nat) (ok : Nat → Prop) (x : S34)  : k34.M w base ok x [.int .i64 x.f0, .string x.f1, .int .i64 x.f2, .int .i64 x.f3, .int .i64 x.f4] := ⟨[.int .i64 x.f0], [.string x.f1, .int .i64 x.f2, .int .i64 x.f3, .int .i64 x.f4], rfl, rfl, ⟨[.string x.f1], [.int .i64 x.f2, .int .i64 x.f3, .int .i64 x.f4], rfl, rfl, ⟨[.int .i64 x.f2], [.int .i64 x.f3, .int .i64 x.f4], rfl, rfl, ⟨[.int .i64 x.f3], [.int .i64 x.f4], rfl, rfl, rfl⟩⟩⟩⟩
def rd_T34 (xs : List S34) (i : Int) : S34 := xs.getD i.toNat z34
theorem at_T34 {w : World} {A : Option Addr} {n : Nat} {xs : List S34} (h : Kd.C k34 w A n xs) (i : Int) (h0 : 0 ≤ i) (h1 : i < n) : ∃ ad , A = some ad ∧ w.cell? (ad.add (i.toNat * 5)) = some (.int .i64 (rd_T34 xs i).f0) ∧ w.cell? ⟨(ad.add (i.toNat * 5)).block, (ad.add (i.toNat * 5)).off + 1, none⟩ = some (.string (rd_T34 xs i).f1) ∧ w.cell? ⟨(ad.add (i.toNat * 5)).block, (ad.add (i.toNat * 5)).off + 2, none⟩ = some (.int .i64 (rd_T34 xs i).f2) ∧ w.cell? ⟨(ad.add (i.toNat * 5)).block, (ad.add (i.toNat * 5)).off + 3, none⟩ = some (.int .i64 (rd_T34 xs i).f3) ∧ w.cell? ⟨(ad.add (i.toNat * 5)).block, (ad.add (i.toNat * 5)).off + 4, none⟩ = some (.int .i64 (rd_T34 xs i).f4) := by
 obtain ⟨ad, c, e, _, hK, hc0⟩ := Kd.C_get h z34 i h0 h1
 have hc : ∀ j u, c[j]? = some u → w.cell? (ad.add (i.toNat * 5 + j)) = some u := hc0
 obtain rfl := k34_open hK
 exact ⟨ad, e, hc 0 _ rfl, by rw [← add_field _ _ 1 (by omega)]; exact hc 1 _ rfl, by rw [← add_field _ _ 2 (by omega)]; exact hc 2 _ rfl, by rw [← add_field _ _ 3 (by omega)]; exact hc 3 _ rfl, by rw [← add_field _ _ 4 (by omega)]; exact hc 4 _ rfl⟩

/-! #### struct type 38 -/
structure S38 where
 f0 : ByteArray
 f1 : Int
 f2 : Int
 f3 : Int
 f4 : Bool
def z38 : S38 := ⟨(⟨#[]⟩ : ByteArray), (0 : Int), (0 : Int), (0 : Int), false⟩
def k38 : Kd S38 := Kd.iso (Kd.pair Kd.string (Kd.pair (Kd.int .i64) (Kd.pair (Kd.int .i64) (Kd.pair (Kd.int .i64) Kd.bool)))) (fun x : S38 => (x.f0, x.f1, x.f2, x.f3, x.f4))
theorem k38_open {w : World} {x : S38} {cs : List Value} (h : k38.K w x cs) : cs = [.string x.f0, .int .i64 x.f1, .int .i64 x.f2, .int .i64 x.f3, .bool x.f4] := by
 obtain ⟨_, _, rfl, rfl, ⟨_, _, rfl, rfl, ⟨_, _, rfl, rfl, ⟨_, _, rfl, rfl, rfl⟩⟩⟩⟩ := h
 exact rfl
theorem k38_openM {w : World} {base : Nat} {ok : Nat → Prop} {x : S38} {cs : List Value} (h : k38.M w base ok x cs) : cs = [.string x.f0, .int .i64 x.f1, .int .i64 x.f2, .int .i64 x.f3, .bool x.f4] := by
 obtain ⟨_, _, rfl, rfl, ⟨_, _, rfl, rfl, ⟨_, _, rfl, rfl, ⟨_, _, rfl, rfl, rfl⟩⟩⟩⟩ := h
 exact rfl
theorem k38_mk (w : World) (x : S38)  : k38.K w x [.string x.f0, .int .i64 x.f1, .int .i64 x.f2, .int .i64 x.f3, .bool x.f4] := ⟨[.string x.f0], [.int .i64 x.f1, .int .i64 x.f2, .int .i64 x.f3, .bool x.f4], rfl, rfl, ⟨[.int .i64 x.f1], [.int .i64 x.f2, .int .i64 x.f3, .bool x.f4], rfl, rfl, ⟨[.int .i64 x.f2], [.int .i64 x.f3, .bool x.f4], rfl, rfl, ⟨[.int .i64 x.f3], [.bool x.f4], rfl, rfl, rfl⟩⟩⟩⟩
theorem k38_mkM (w : World) (base : Nat) (ok : Nat → Prop) (x : S38)  : k38.M w base ok x [.string x.f0, .int .i64 x.f1, .int .i64 x.f2, .int .i64 x.f3, .bool x.f4] := ⟨[.string x.f0], [.int .i64 x.f1, .int .i64 x.f2, .int .i64 x.f3, .bool x.f4], rfl, rfl, ⟨[.int .i64 x.f1], [.int .i64 x.f2, .int .i64 x.f3, .bool x.f4], rfl, rfl, ⟨[.int .i64 x.f2], [.int .i64 x.f3, .bool x.f4], rfl, rfl, ⟨[.int .i64 x.f3], [.bool x.f4], rfl, rfl, rfl⟩⟩⟩⟩
def rd_T38 (xs : List S38) (i : Int) : S38 := xs.getD i.toNat z38
theorem at_T38 {w : World} {A : Option Addr} {n : Nat} {xs : List S38} (h : Kd.C k38 w A n xs) (i : Int) (h0 : 0 ≤ i) (h1 : i < n) : ∃ ad , A = some ad ∧ w.cell? (ad.add (i.toNat * 5)) = some (.string (rd_T38 xs i).f0) ∧ w.cell? ⟨(ad.add (i.toNat * 5)).block, (ad.add (i.toNat * 5)).off + 1, none⟩ = some (.int .i64 (rd_T38 xs i).f1) ∧ w.cell? ⟨(ad.add (i.toNat * 5)).block, (ad.add (i.toNat * 5)).off + 2, none⟩ = some (.int .i64 (rd_T38 xs i).f2) ∧ w.cell? ⟨(ad.add (i.toNat * 5)).block, (ad.add (i.toNat * 5)).off + 3, none⟩ = some (.int .i64 (rd_T38 xs i).f3) ∧ w.cell? ⟨(ad.add (i.toNat * 5)).block, (ad.add (i.toNat * 5)).off + 4, none⟩ = some (.bool (rd_T38 xs i).f4) := by
 obtain ⟨ad, c, e, _, hK, hc0⟩ := Kd.C_get h z38 i h0 h1
 have hc : ∀ j u, c[j]? = some u → w.cell? (ad.add (i.toNat * 5 + j)) = some u := hc0
 obtain rfl := k38_open hK
 exact ⟨ad, e, hc 0 _ rfl, by rw [← add_field _ _ 1 (by omega)]; exact hc 1 _ rfl, by rw [← add_field _ _ 2 (by omega)]; exact hc 2 _ rfl, by rw [← add_field _ _ 3 (by omega)]; exact hc 3 _ rfl, by rw [← add_field _ _ 4 (by omega)]; exact hc 4 _ rfl⟩

/-! #### struct type 36 -/
structure S36 where
 f0 : Int
 f1 : Int
def z36 : S36 := ⟨(0 : Int), (0 : Int)⟩
def k36 : Kd S36 := Kd.iso (Kd.pair (Kd.int .i64) (Kd.int .i64)) (fun x : S36 => (x.f0, x.f1))
theorem k36_open {w : World} {x : S36} {cs : List Value} (h : k36.K w x cs) : cs = [.int .i64 x.f0, .int .i64 x.f1] := by
 obtain ⟨_, _, rfl, rfl, rfl⟩ := h
 exact rfl
theorem k36_openM {w : World} {base : Nat} {ok : Nat → Prop} {x : S36} {cs : List Value} (h : k36.M w base ok x cs) : cs = [.int .i64 x.f0, .int .i64 x.f1] := by
 obtain ⟨_, _, rfl, rfl, rfl⟩ := h
 exact rfl
theorem k36_mk (w : World) (x : S36)  : k36.K w x [.int .i64 x.f0, .int .i64 x.f1] := ⟨[.int .i64 x.f0], [.int .i64 x.f1], rfl, rfl, rfl⟩
theorem k36_mkM (w : World) (base : Nat) (ok : Nat → Prop) (x : S36)  : k36.M w base ok x [.int .i64 x.f0, .int .i64 x.f1] := ⟨[.int .i64 x.f0], [.int .i64 x.f1], rfl, rfl, rfl⟩
def rd_T36 (xs : List S36) (i : Int) : S36 := xs.getD i.toNat z36
theorem at_T36 {w : World} {A : Option Addr} {n : Nat} {xs : List S36} (h : Kd.C k36 w A n xs) (i : Int) (h0 : 0 ≤ i) (h1 : i < n) : ∃ ad , A = some ad ∧ w.cell? (ad.add (i.toNat * 2)) = some (.int .i64 (rd_T36 xs i).f0) ∧ w.cell? ⟨(ad.add (i.toNat * 2)).block, (ad.add (i.toNat * 2)).off + 1, none⟩ = some (.int .i64 (rd_T36 xs i).f1) := by
 obtain ⟨ad, c, e, _, hK, hc0⟩ := Kd.C_get h z36 i h0 h1
 have hc : ∀ j u, c[j]? = some u → w.cell? (ad.add (i.toNat * 2 + j)) = some u := hc0
 obtain rfl := k36_open hK
 exact ⟨ad, e, hc 0 _ rfl, by rw [← add_field _ _ 1 (by omega)]; exact hc 1 _ rfl⟩

def rd_L7 (xs : List (List Int)) (i : Int) : (List Int) := xs.getD i.toNat ([] : List Int)
theorem at_L7 {w : World} {A : Option Addr} {n : Nat} {xs : List (List Int)} (h : Kd.C (Kd.slice 5 (Kd.int .u8)) w A n xs) (i : Int) (h0 : 0 ≤ i) (h1 : i < n) : ∃ ad A0 c0, A = some ad ∧ w.cell? (ad.add i.toNat) = some (.slice A0 (rd_L7 xs i).length c0) ∧ (rd_L7 xs i).length ≤ c0 ∧ (Kd.int .u8).C w A0 (rd_L7 xs i).length (rd_L7 xs i) := by
 obtain ⟨ad, c, e, _, hK, hc0⟩ := Kd.C_get h ([] : List Int) i h0 h1
 have hc : ∀ j u, c[j]? = some u → w.cell? (ad.add (i.toNat * 1 + j)) = some u := hc0
 obtain ⟨A0, c0, rfl, l0, g0⟩ := hK
 exact ⟨ad, A0, c0, e, by have hq := hc 0 _ rfl; rwa [Nat.mul_one, Nat.add_zero] at hq, l0, g0⟩

-- aliases
theorem zO {p : Prop} [Decidable p] (h : decide p = true := by first | (with_reducible assumption) | assumption) : p := of_decide_eq_true h
abbrev za := @Aside0.mk
abbrev zb := @blk_alloc
abbrev zc := @blk_drewN
abbrev zd := @blk_frozen
abbrev ze := @blk_drew
abbrev zf := @below_set
abbrev zg := @pw_below_drewN
abbrev zh := @below_drew1
abbrev zi := @below_alloc
abbrev zj := @Kd.R_alloc
abbrev zk := @Kd.R_drewN
abbrev zl := @Kd.R_drew
abbrev zm := @Kd.R_far
abbrev zn := @Kd.R_mono
abbrev zo := @World.block_lt_of_cell?
abbrev zp := @blk_far
abbrev zq := @blk_below
abbrev zr := @blk_put
abbrev zs := @KeepBut.set_
abbrev zt := @Kd.R_below
abbrev zu := @below_step
abbrev zv := @below_size
abbrev zw := @Kd.R_keep
abbrev zx := @blk_lt
abbrev zy := @Kd.R_reads'
abbrev zz := @Kd.R_types
abbrev zaa := @KeepBut.trans
abbrev zab := @Kd.R_slice
abbrev zac := @Kd.R_elderB
abbrev zad := @Kd.C_alloc
abbrev zae := @Kd.C_drewN
abbrev zaf := @Kd.C_drew
abbrev zag := @Kd.R_elder'
abbrev zah := @Kd.R_lower
abbrev zai := @Kd.R_ne
abbrev zaj := @Kd.R_base
abbrev zak := @KeepBut.of_below
abbrev zal := @KeepBut.blk
abbrev zam := @blk_grown
abbrev zan := @blk_kept
abbrev zao := @Kd.C_below
abbrev zap := @Kd.at_int
abbrev zaq := @KeepBut.of_grown
abbrev zar := @below_weaken
abbrev zas := @Kd.R_append
abbrev zat := @Kept.of_grown
abbrev zau := @KeepBut.refl
abbrev zav := @Kd.R_typed
abbrev zaw := @Kd.R_lit_step
abbrev zax := @Kd.R_base2
abbrev zay := @Kd.R_over'
abbrev zaz := @Kd.own_blk
abbrev zba := @Kd.R_bound
theorem zG53 {p : Prop} (h : p := by repeat (first | (with_reducible first | exact HB.out | apply zi | apply zg | apply zh | refine zf ?_ GE297.out | refine zf ?_ GE315.out | refine zf ?_ GE318.out) | exact HB.out)) : p := h
theorem zG54 {p : Prop} (h : p := by repeat (first | (with_reducible first | exact HK.out | apply zs | apply keep_drewN | apply keep_drew | apply keep_alloc | refine keep_far ?_ GW142.out _) | exact HK.out)) : p := h
theorem zG55 {p : Prop} (h : p := by repeat (first | (with_reducible first | exact HB.out | apply zi | apply zg | apply zh | refine zf ?_ (IsS67.ge HI0.out) | refine zf ?_ GE142.out) | exact HB.out)) : p := h
theorem zG56 {p : Prop} (h : p := by (try simp only [List.map_toArray, List.map_cons, List.map_nil]); first | done | rfl | (simp only [List.length_drop, List.length_take]; rfl)) : p := h
theorem zG57 {p : Prop} (h : p := by repeat (first | (with_reducible first | exact HK.out | apply zs | apply keep_drewN | apply keep_drew | apply keep_alloc) | exact HK.out)) : p := h
theorem zG58 {p : Prop} (h : p := by repeat (first | (with_reducible first | exact HB.out | apply zi | apply zg | apply zh) | exact HB.out)) : p := h
theorem zG59 {p : Prop} (h : p := by (with_reducible repeat (first | refine zc ?_ _ | refine ze ?_ | refine zb ?_ _)); exact BK142.out) : p := h
theorem zG60 {p : Prop} (h : p := by (with_reducible repeat (first | refine zc ?_ _ | refine ze ?_ | refine zb ?_ _)); exact BK297.out) : p := h
theorem zG61 {p : Prop} (h : p := by (with_reducible repeat (first | refine zc ?_ _ | refine ze ?_ | refine zb ?_ _)); exact BK315.out) : p := h
theorem zG62 {p : Prop} (h : p := by (with_reducible repeat (first | refine zc ?_ _ | refine ze ?_ | refine zb ?_ _)); exact BK318.out) : p := h
theorem zG63 {p : Prop} (h : p := by (with_reducible repeat (first | refine zc ?_ _ | refine ze ?_ | refine zb ?_ _)); exact BK0.out) : p := h
theorem zG64 {p : Prop} (h : p := by (with_reducible repeat (first | apply zj | apply zk | apply zl)); exact (Q_HO178 h0_)) : p := h
theorem zG65 {p : Prop} (h : p := by (with_reducible repeat (first | apply zj | apply zk | apply zl)); exact (Q_HO185 h0_)) : p := h
theorem zG66 {p : Prop} (h : p := by (with_reducible repeat (first | apply zj | apply zk | apply zl)); exact (Q_HO192 h0_)) : p := h
theorem zG67 {p : Prop} (h : p := by (with_reducible repeat (first | apply zj | apply zk | apply zl)); exact HO_3.out) : p := h
theorem zG68 {p : Prop} (h : p := by first | rfl | (simp; done) | (simp [*]; done)) : p := h
theorem zG69 {p : Prop} (h : p := by kernel_rfl) : p := h
theorem zG70 {p : Prop} (h : p := by decide) : p := h
-- pressed
abbrev zA_ := @And.intro
-- pressed twice
theorem zAi {a b c : Prop} (h : a → b → c) : a ∧ b → c := fun x => h x.1 x.2
theorem zP {P : Program} {ops : Array Oper} {Q : Exit → Act → World → Prop} {md : Region.Mode} {S : World → Prop} {ds : List Nat} {T : Bool × List (List Nat × List Nat)} {oi : Oper} {v : Value} {fuel : Nat} {l : Array Bool} {a a' : Act} {w : World} (i : Nat) (N : Tmp) (l' : Array Bool) (hT : Aside0 (rtab md ops = T)) (h : wpAnyLast P md ops Q S ds fuel l' a' w) (hi : ops[i]? = some oi := by rfl) (hN : oi.dst = some N := by rfl) (hc : anyT T l.toList l'.toList i = true := by kernel_rfl) (hQ : ∀ c a w, Q (.panic c) (a.put oi.dst v) w → Q (.panic c) a w := by exact fun _ _ _ h => h) (hw : Region.wanted oi (yielded ops a.tmps) = true := by rfl) (hy : ∀ w, (execOp a.eval oi).run P w = .ok (.value v) w := by intro w'; go_simp; with_reducible rfl) (ha : a.put (some N) v = a' := by simp only [Act.put, List.setIfInBounds_toArray, List.set_cons_zero, List.set_cons_succ, i64_w, i32_w]; rfl) : wpAnyLast P md ops Q S ds (fuel + 1) l a w := pure_ l' hi hN (any_of hT.out hc) hQ (Or.inl ⟨hw, hy⟩) ha h
theorem zQ {P : Program} {ops : Array Oper} {Q : Exit → Act → World → Prop} {md : Region.Mode} {S : World → Prop} {ds : List Nat} {T : Bool × List (List Nat × List Nat)} {oi : Oper} {v : Value} {fuel : Nat} {l : Array Bool} {a a' : Act} {w : World} {B : List Nat} (i : Nat) (N : Tmp) (l' : Array Bool) (hT : Aside0 (rtab md ops = T)) (hW : Aside0 (waitsOk T.2 B = true)) (hS : S w) (h : wpAnyLast P md ops Q S ds fuel l' a' w) (hi : ops[i]? = some oi := by rfl) (hN : oi.dst = some N := by rfl) (hc : takeW T B ds l.toList l'.toList i = true := by kernel_rfl) (hQ : ∀ c a w, Q (.panic c) (a.put oi.dst v) w → Q (.panic c) a w := by exact fun _ _ _ h => h) (hw : Region.wanted oi (yielded ops a.tmps) = true := by rfl) (hy : ∀ w, S w → (execOp a.eval oi).run P w = .ok (.value v) w := by intro w'; (repeat (refine zAi ?_; intro _)); intro _; go_simp; with_reducible rfl) (ha : a.put (some N) v = a' := by simp only [Act.put, List.setIfInBounds_toArray, List.set_cons_zero, List.set_cons_succ, i64_w, i32_w]; rfl) : wpAnyLast P md ops Q S ds (fuel + 1) l a w := take_ l' hi hN (take_ofW hT.out hW.out hc) hQ (Or.inl ⟨hw, hy⟩) hS ha h
theorem zU {P : Program} {ops : Array Oper} {Q : Exit → Act → World → Prop} {md : Region.Mode} {S : World → Prop} {ds : List Nat} {T : Bool × List (List Nat × List Nat)} {oi : Oper} {fuel : Nat} {l : Array Bool} {a a' : Act} {w : World} (i : Nat) (N : Tmp) (l' : Array Bool) (hT : Aside0 (rtab md ops = T)) (h : wpAnyLast P md ops Q S ds fuel l' a' w) (hi : ops[i]? = some oi := by rfl) (hN : oi.dst = some N := by rfl) (hc : anyT T l.toList l'.toList i = true := by kernel_rfl) (hQ : ∀ c a w, Q (.panic c) (a.put oi.dst undef) w → Q (.panic c) a w := by exact fun _ _ _ h => h) (hw : Region.wanted oi (yielded ops a.tmps) = false := by rfl) (ha : a.put (some N) undef = a' := by simp only [Act.put, List.setIfInBounds_toArray, List.set_cons_zero, List.set_cons_succ, i64_w, i32_w]; rfl) : wpAnyLast P md ops Q S ds (fuel + 1) l a w := pure_ l' hi hN (any_of hT.out hc) hQ (Or.inr ⟨hw, rfl⟩) ha h
def zM (n m : Nat) : Array Bool := ⟨(List.range n).map (fun i => Nat.testBit m i)⟩
theorem zB2 {w : World} {g : Nat} {t : TypeId} {v0 v1 : Value} (h : w.heap[g]? = some (.cells #[v0, v1] t (0, 0))) : w.cell? ⟨g, 0, none⟩ = some v0 ∧ w.cell? ⟨g, 1, none⟩ = some v1 ∧ w.frozen? ⟨g, 0, none⟩ = false ∧ w.frozen? ⟨g, 1, none⟩ = false := ⟨(blk_cell h 0).trans rfl, (blk_cell h 1).trans rfl, blk_frozen h 0, blk_frozen h 1⟩
theorem zB5 {w : World} {g : Nat} {t : TypeId} {v0 v1 v2 v3 v4 : Value} (h : w.heap[g]? = some (.cells #[v0, v1, v2, v3, v4] t (0, 0))) : w.cell? ⟨g, 0, none⟩ = some v0 ∧ w.cell? ⟨g, 1, none⟩ = some v1 ∧ w.cell? ⟨g, 2, none⟩ = some v2 ∧ w.cell? ⟨g, 3, none⟩ = some v3 ∧ w.cell? ⟨g, 4, none⟩ = some v4 ∧ w.frozen? ⟨g, 0, none⟩ = false ∧ w.frozen? ⟨g, 1, none⟩ = false ∧ w.frozen? ⟨g, 2, none⟩ = false ∧ w.frozen? ⟨g, 3, none⟩ = false ∧ w.frozen? ⟨g, 4, none⟩ = false := ⟨(blk_cell h 0).trans rfl, (blk_cell h 1).trans rfl, (blk_cell h 2).trans rfl, (blk_cell h 3).trans rfl, (blk_cell h 4).trans rfl, blk_frozen h 0, blk_frozen h 1, blk_frozen h 2, blk_frozen h 3, blk_frozen h 4⟩
theorem zB6 {w : World} {g : Nat} {t : TypeId} {v0 v1 v2 v3 v4 v5 : Value} (h : w.heap[g]? = some (.cells #[v0, v1, v2, v3, v4, v5] t (0, 0))) : w.cell? ⟨g, 0, none⟩ = some v0 ∧ w.cell? ⟨g, 1, none⟩ = some v1 ∧ w.cell? ⟨g, 2, none⟩ = some v2 ∧ w.cell? ⟨g, 3, none⟩ = some v3 ∧ w.cell? ⟨g, 4, none⟩ = some v4 ∧ w.cell? ⟨g, 5, none⟩ = some v5 ∧ w.frozen? ⟨g, 0, none⟩ = false ∧ w.frozen? ⟨g, 1, none⟩ = false ∧ w.frozen? ⟨g, 2, none⟩ = false ∧ w.frozen? ⟨g, 3, none⟩ = false ∧ w.frozen? ⟨g, 4, none⟩ = false ∧ w.frozen? ⟨g, 5, none⟩ = false := ⟨(blk_cell h 0).trans rfl, (blk_cell h 1).trans rfl, (blk_cell h 2).trans rfl, (blk_cell h 3).trans rfl, (blk_cell h 4).trans rfl, (blk_cell h 5).trans rfl, blk_frozen h 0, blk_frozen h 1, blk_frozen h 2, blk_frozen h 3, blk_frozen h 4, blk_frozen h 5⟩
theorem zN1 (p : Nat) {b s : Nat} (hg : b = s) (h : p ≤ s) : Aside0 (p ≤ b) := ⟨hg ▸ h⟩
theorem zN2 {a b s : Nat} (hg : b = s) (h : a < s) : Aside0 (a ≠ b) ∧ Aside0 (b ≠ a) := ⟨⟨by subst hg; exact Nat.ne_of_lt h⟩, ⟨by subst hg; exact Nat.ne_of_gt h⟩⟩
theorem zN3 {a b s : Nat} {c : Prop} (hg : b = s) (h : a < s) (r : c) : Aside0 (a ≠ b) ∧ Aside0 (b ≠ a) ∧ c := ⟨(zN2 hg h).1, (zN2 hg h).2, r⟩
theorem zD2 {p0 p1 : Prop} (h0 : p0) (h1 : p1) : Aside0 p0 ∧ Aside0 p1 := ⟨⟨h0⟩, ⟨h1⟩⟩
theorem zD3 {p0 p1 p2 : Prop} (h0 : p0) (h1 : p1) (h2 : p2) : Aside0 p0 ∧ Aside0 p1 ∧ Aside0 p2 := ⟨⟨h0⟩, ⟨h1⟩, ⟨h2⟩⟩
theorem zD4 {p0 p1 p2 p3 : Prop} (h0 : p0) (h1 : p1) (h2 : p2) (h3 : p3) : Aside0 p0 ∧ Aside0 p1 ∧ Aside0 p2 ∧ Aside0 p3 := ⟨⟨h0⟩, ⟨h1⟩, ⟨h2⟩, ⟨h3⟩⟩
theorem zD5 {p0 p1 p2 p3 p4 : Prop} (h0 : p0) (h1 : p1) (h2 : p2) (h3 : p3) (h4 : p4) : Aside0 p0 ∧ Aside0 p1 ∧ Aside0 p2 ∧ Aside0 p3 ∧ Aside0 p4 := ⟨⟨h0⟩, ⟨h1⟩, ⟨h2⟩, ⟨h3⟩, ⟨h4⟩⟩
theorem zD6 {p0 p1 p2 p3 p4 p5 : Prop} (h0 : p0) (h1 : p1) (h2 : p2) (h3 : p3) (h4 : p4) (h5 : p5) : Aside0 p0 ∧ Aside0 p1 ∧ Aside0 p2 ∧ Aside0 p3 ∧ Aside0 p4 ∧ Aside0 p5 := ⟨⟨h0⟩, ⟨h1⟩, ⟨h2⟩, ⟨h3⟩, ⟨h4⟩, ⟨h5⟩⟩
theorem zD7 {p0 p1 p2 p3 p4 p5 p6 : Prop} (h0 : p0) (h1 : p1) (h2 : p2) (h3 : p3) (h4 : p4) (h5 : p5) (h6 : p6) : Aside0 p0 ∧ Aside0 p1 ∧ Aside0 p2 ∧ Aside0 p3 ∧ Aside0 p4 ∧ Aside0 p5 ∧ Aside0 p6 := ⟨⟨h0⟩, ⟨h1⟩, ⟨h2⟩, ⟨h3⟩, ⟨h4⟩, ⟨h5⟩, ⟨h6⟩⟩
theorem zD8 {p0 p1 p2 p3 p4 p5 p6 p7 : Prop} (h0 : p0) (h1 : p1) (h2 : p2) (h3 : p3) (h4 : p4) (h5 : p5) (h6 : p6) (h7 : p7) : Aside0 p0 ∧ Aside0 p1 ∧ Aside0 p2 ∧ Aside0 p3 ∧ Aside0 p4 ∧ Aside0 p5 ∧ Aside0 p6 ∧ Aside0 p7 := ⟨⟨h0⟩, ⟨h1⟩, ⟨h2⟩, ⟨h3⟩, ⟨h4⟩, ⟨h5⟩, ⟨h6⟩, ⟨h7⟩⟩
theorem zD9 {p0 p1 p2 p3 p4 p5 p6 p7 p8 : Prop} (h0 : p0) (h1 : p1) (h2 : p2) (h3 : p3) (h4 : p4) (h5 : p5) (h6 : p6) (h7 : p7) (h8 : p8) : Aside0 p0 ∧ Aside0 p1 ∧ Aside0 p2 ∧ Aside0 p3 ∧ Aside0 p4 ∧ Aside0 p5 ∧ Aside0 p6 ∧ Aside0 p7 ∧ Aside0 p8 := ⟨⟨h0⟩, ⟨h1⟩, ⟨h2⟩, ⟨h3⟩, ⟨h4⟩, ⟨h5⟩, ⟨h6⟩, ⟨h7⟩, ⟨h8⟩⟩
theorem zD12 {p0 p1 p2 p3 p4 p5 p6 p7 p8 p9 p10 p11 : Prop} (h0 : p0) (h1 : p1) (h2 : p2) (h3 : p3) (h4 : p4) (h5 : p5) (h6 : p6) (h7 : p7) (h8 : p8) (h9 : p9) (h10 : p10) (h11 : p11) : Aside0 p0 ∧ Aside0 p1 ∧ Aside0 p2 ∧ Aside0 p3 ∧ Aside0 p4 ∧ Aside0 p5 ∧ Aside0 p6 ∧ Aside0 p7 ∧ Aside0 p8 ∧ Aside0 p9 ∧ Aside0 p10 ∧ Aside0 p11 := ⟨⟨h0⟩, ⟨h1⟩, ⟨h2⟩, ⟨h3⟩, ⟨h4⟩, ⟨h5⟩, ⟨h6⟩, ⟨h7⟩, ⟨h8⟩, ⟨h9⟩, ⟨h10⟩, ⟨h11⟩⟩
theorem zH0 {p : Prop} (h : p := by (with_reducible repeat (first | refine zc ?_ _ | refine ze ?_ | refine zb ?_ _)); refine zr (cs := (za5 ((rd_T34 t277 t280).f0) ((rd_T34 t277 t280).f1) ((rd_T34 t277 t280).f2) ((rd_T34 t277 t280).f3) 0)) ?_ 4 _ rfl; (with_reducible repeat (first | refine zc ?_ _ | refine ze ?_ | refine zb ?_ _)); refine zr (cs := (za5 ((rd_T34 t277 t280).f0) ((rd_T34 t277 t280).f1) ((rd_T34 t277 t280).f2) 0 0)) ?_ 3 _ rfl; (with_reducible repeat (first | refine zc ?_ _ | refine ze ?_ | refine zb ?_ _)); refine zr (cs := (za5 ((rd_T34 t277 t280).f0) ((rd_T34 t277 t280).f1) 0 0 0)) ?_ 2 _ rfl; (with_reducible repeat (first | refine zc ?_ _ | refine ze ?_ | refine zb ?_ _)); refine zr (cs := (za5 ((rd_T34 t277 t280).f0) (⟨#[]⟩ : ByteArray) 0 0 0)) ?_ 1 _ rfl; (with_reducible repeat (first | refine zc ?_ _ | refine ze ?_ | refine zb ?_ _)); refine zr (cs := (za5 0 (⟨#[]⟩ : ByteArray) 0 0 0)) ?_ 0 _ rfl; (with_reducible repeat (first | refine zc ?_ _ | refine ze ?_ | refine zb ?_ _)); exact BK318.out) : p := h
theorem zH1 {p : Prop} (h : p := by refine (zy (e := 38) (base := w.heap.size) (ok := fun k_ => (some k_ ≠ (.slice (some ad323) t293.length co18 : Value).ownBlock ∧ k_ ≠ gb324)) (n := t311.length) (c := co35) ?_).2.2; exact (by (with_reducible repeat (first | apply zj | apply zk | apply zl)); exact (zn (zm (p := ⟨gb324, 4, none⟩) (zm (p := ⟨gb324, 3, none⟩) (zm (p := ⟨gb324, 2, none⟩) (zm (p := ⟨gb324, 1, none⟩) (zm (p := ⟨gb324, 0, none⟩) (zn HO_316005.out (fun k_ hk => (⟨hk, hk.2⟩ : _ ∧ k_ ≠ gb324))) (fun _ hk => hk.2) (.string ((rd_T38 t293 x18_6).f0))) (fun _ hk => hk.2) (.int .i64 ((rd_T38 t293 x18_6).f1))) (fun _ hk => hk.2) (.int .i64 ((rd_T38 t293 x18_6).f2))) (fun _ hk => hk.2) (.int .i64 ((rd_T38 t293 x18_6).f3))) (fun _ hk => hk.2) (.bool false)) (fun _ h_ => h_.1)))) : p := h
theorem zH2 {p : Prop} (h : p := by refine (zy (e := 38) (base := w.heap.size) (ok := fun k_ => (True ∧ some k_ ≠ (.slice Ao18 t293.length co18 : Value).ownBlock)) (n := t311.length) (c := co35) ?_).2.2; exact (by (with_reducible repeat (first | apply zj | apply zk | apply zl)); exact (zn (zm (p := ⟨gb315, 5, none⟩) (zm (p := ⟨gb315, 4, none⟩) (zm (p := ⟨gb315, 3, none⟩) (zm (p := ⟨gb315, 2, none⟩) (zm (p := ⟨gb315, 1, none⟩) (zm (p := ⟨gb315, 0, none⟩) (zz HO313.out BK315.out zG70) (fun _ hk => hk.2) (.int .i64 t306)) (fun _ hk => hk.2) (.int .i64 t307)) (fun _ hk => hk.2) (.int .i64 t308)) (fun _ hk => hk.2) (.int .i64 t309)) (fun _ hk => hk.2) (.int .i64 t310)) (fun _ hk => hk.2) (.slice Ao35 t311.length co35)) (fun _ h_ => h_.1)))) : p := h
theorem zH3 {p : Prop} (h : p := by (with_reducible repeat (first | refine zc ?_ _ | refine ze ?_ | refine zb ?_ _)); refine zp ?_ NB297_318.out _; (with_reducible repeat (first | refine zc ?_ _ | refine ze ?_ | refine zb ?_ _)); refine zp ?_ NB297_318.out _; (with_reducible repeat (first | refine zc ?_ _ | refine ze ?_ | refine zb ?_ _)); refine zp ?_ NB297_318.out _; (with_reducible repeat (first | refine zc ?_ _ | refine ze ?_ | refine zb ?_ _)); refine zp ?_ NB297_318.out _; (with_reducible repeat (first | refine zc ?_ _ | refine ze ?_ | refine zb ?_ _)); refine zp ?_ NB297_318.out _; (with_reducible repeat (first | refine zc ?_ _ | refine ze ?_ | refine zb ?_ _)); exact BK297.out) : p := h
theorem zH4 {p : Prop} (h : p := by (with_reducible repeat (first | refine zc ?_ _ | refine ze ?_ | refine zb ?_ _)); refine zp ?_ NB315_318.out _; (with_reducible repeat (first | refine zc ?_ _ | refine ze ?_ | refine zb ?_ _)); refine zp ?_ NB315_318.out _; (with_reducible repeat (first | refine zc ?_ _ | refine ze ?_ | refine zb ?_ _)); refine zp ?_ NB315_318.out _; (with_reducible repeat (first | refine zc ?_ _ | refine ze ?_ | refine zb ?_ _)); refine zp ?_ NB315_318.out _; (with_reducible repeat (first | refine zc ?_ _ | refine ze ?_ | refine zb ?_ _)); refine zp ?_ NB315_318.out _; (with_reducible repeat (first | refine zc ?_ _ | refine ze ?_ | refine zb ?_ _)); exact BK315.out) : p := h
theorem zH5 {p : Prop} (h : p := by (with_reducible repeat (first | refine zc ?_ _ | refine ze ?_ | refine zb ?_ _)); refine zp ?_ NB297_324.out _; (with_reducible repeat (first | refine zc ?_ _ | refine ze ?_ | refine zb ?_ _)); refine zp ?_ NB297_324.out _; (with_reducible repeat (first | refine zc ?_ _ | refine ze ?_ | refine zb ?_ _)); refine zp ?_ NB297_324.out _; (with_reducible repeat (first | refine zc ?_ _ | refine ze ?_ | refine zb ?_ _)); refine zp ?_ NB297_324.out _; (with_reducible repeat (first | refine zc ?_ _ | refine ze ?_ | refine zb ?_ _)); refine zp ?_ NB297_324.out _; (with_reducible repeat (first | refine zc ?_ _ | refine ze ?_ | refine zb ?_ _)); exact BK297.out) : p := h
theorem zH6 {p : Prop} (h : p := by (with_reducible repeat (first | refine zc ?_ _ | refine ze ?_ | refine zb ?_ _)); refine zp ?_ NB315_324.out _; (with_reducible repeat (first | refine zc ?_ _ | refine ze ?_ | refine zb ?_ _)); refine zp ?_ NB315_324.out _; (with_reducible repeat (first | refine zc ?_ _ | refine ze ?_ | refine zb ?_ _)); refine zp ?_ NB315_324.out _; (with_reducible repeat (first | refine zc ?_ _ | refine ze ?_ | refine zb ?_ _)); refine zp ?_ NB315_324.out _; (with_reducible repeat (first | refine zc ?_ _ | refine ze ?_ | refine zb ?_ _)); refine zp ?_ NB315_324.out _; (with_reducible repeat (first | refine zc ?_ _ | refine ze ?_ | refine zb ?_ _)); exact BK315.out) : p := h
theorem zH7 {p : Prop} (h : p := by (with_reducible repeat (first | refine zc ?_ _ | refine ze ?_ | refine zb ?_ _)); refine zp ?_ NB318_324.out _; (with_reducible repeat (first | refine zc ?_ _ | refine ze ?_ | refine zb ?_ _)); refine zp ?_ NB318_324.out _; (with_reducible repeat (first | refine zc ?_ _ | refine ze ?_ | refine zb ?_ _)); refine zp ?_ NB318_324.out _; (with_reducible repeat (first | refine zc ?_ _ | refine ze ?_ | refine zb ?_ _)); refine zp ?_ NB318_324.out _; (with_reducible repeat (first | refine zc ?_ _ | refine ze ?_ | refine zb ?_ _)); refine zp ?_ NB318_324.out _; (with_reducible repeat (first | refine zc ?_ _ | refine ze ?_ | refine zb ?_ _)); exact BK318.out) : p := h
theorem zH8 {p : Prop} (h : p := by (with_reducible repeat (first | apply zj | apply zk | apply zl)); exact zn (zm (p := ⟨gb324, 4, none⟩) (zm (p := ⟨gb324, 3, none⟩) (zm (p := ⟨gb324, 2, none⟩) (zm (p := ⟨gb324, 1, none⟩) (zm (p := ⟨gb324, 0, none⟩) (zn HO_298005.out (fun k_ hk => (⟨hk, hk.2⟩ : _ ∧ k_ ≠ gb324))) (fun _ hk => hk.2) (.string ((rd_T38 t293 x18_6).f0))) (fun _ hk => hk.2) (.int .i64 ((rd_T38 t293 x18_6).f1))) (fun _ hk => hk.2) (.int .i64 ((rd_T38 t293 x18_6).f2))) (fun _ hk => hk.2) (.int .i64 ((rd_T38 t293 x18_6).f3))) (fun _ hk => hk.2) (.bool false)) (fun _ hk => hk.1.1)) : p := h
theorem zH9 {p : Prop} (h : p := by (with_reducible repeat (first | apply zj | apply zk | apply zl)); exact zn (zm (p := ⟨gb324, 4, none⟩) (zm (p := ⟨gb324, 3, none⟩) (zm (p := ⟨gb324, 2, none⟩) (zm (p := ⟨gb324, 1, none⟩) (zm (p := ⟨gb324, 0, none⟩) (zn HO_316005.out (fun k_ hk => (⟨hk, hk.2⟩ : _ ∧ k_ ≠ gb324))) (fun _ hk => hk.2) (.string ((rd_T38 t293 x18_6).f0))) (fun _ hk => hk.2) (.int .i64 ((rd_T38 t293 x18_6).f1))) (fun _ hk => hk.2) (.int .i64 ((rd_T38 t293 x18_6).f2))) (fun _ hk => hk.2) (.int .i64 ((rd_T38 t293 x18_6).f3))) (fun _ hk => hk.2) (.bool false)) (fun _ hk => hk.1.1)) : p := h
theorem zH10 {p : Prop} (h : p := by exact ⟨by first | rfl | (simp [errW_none, errW_some] <;> rfl) | (simp [*, errW_none, errW_some] <;> rfl), by repeat (first | (with_reducible first | exact HI0.out | apply IsS67.alloc | apply IsS67.drewN | apply IsS67.drew | apply IsS67.set_1 | apply IsS67.set_2) | exact HI0.out), by repeat (first | (with_reducible first | exact HB.out | apply zi | apply zg | apply zh | refine zf ?_ (IsS67.ge HI0.out)) | exact HB.out), by repeat (first | (with_reducible first | exact HK.out | apply zs | apply keep_drewN | apply keep_drew | apply keep_alloc) | exact HK.out)⟩) : p := h
theorem zH11 {p : Prop} (h : p := by (with_reducible repeat (first | apply zj | apply zk | apply zl)); exact zn (zm (p := ⟨gb318, 4, none⟩) (zm (p := ⟨gb318, 3, none⟩) (zm (p := ⟨gb318, 2, none⟩) (zm (p := ⟨gb318, 1, none⟩) (zm (p := ⟨gb318, 0, none⟩) (zz HO_298005.out BK318.out zG70) (fun _ hk => hk.2) (.int .i64 ((rd_T34 t277 t280).f0))) (fun _ hk => hk.2) (.string ((rd_T34 t277 t280).f1))) (fun _ hk => hk.2) (.int .i64 ((rd_T34 t277 t280).f2))) (fun _ hk => hk.2) (.int .i64 ((rd_T34 t277 t280).f3))) (fun _ hk => hk.2) (.int .i64 ((rd_T34 t277 t280).f4))) (fun _ hk => hk.1)) : p := h
theorem zH12 {p : Prop} (h : p := by (with_reducible repeat (first | apply zj | apply zk | apply zl)); exact zn (zm (p := ⟨gb318, 4, none⟩) (zm (p := ⟨gb318, 3, none⟩) (zm (p := ⟨gb318, 2, none⟩) (zm (p := ⟨gb318, 1, none⟩) (zm (p := ⟨gb318, 0, none⟩) (zz HO_316005.out BK318.out zG70) (fun _ hk => hk.2) (.int .i64 ((rd_T34 t277 t280).f0))) (fun _ hk => hk.2) (.string ((rd_T34 t277 t280).f1))) (fun _ hk => hk.2) (.int .i64 ((rd_T34 t277 t280).f2))) (fun _ hk => hk.2) (.int .i64 ((rd_T34 t277 t280).f3))) (fun _ hk => hk.2) (.int .i64 ((rd_T34 t277 t280).f4))) (fun _ hk => hk.1)) : p := h
theorem zH13 {p : Prop} (h : p := by exact ⟨_, _, by first | rfl | (simp [errW_none, errW_some] <;> rfl) | (simp [*, errW_none, errW_some] <;> rfl), by first | exact Kd.R_nil _ _ _ _ _ | exact Kd.N_nil _ _ _ _ _ | exact Kd.V_nil _ _ _ _ _ | exact Kd.Q_nil _ _ _ _ _ | exact Kd.S_nil _ _ _ _ _, by first | exact Kd.R_nil _ _ _ _ _ | exact Kd.N_nil _ _ _ _ _ | exact Kd.V_nil _ _ _ _ _ | exact Kd.Q_nil _ _ _ _ _ | exact Kd.S_nil _ _ _ _ _, by repeat (first | (with_reducible first | exact HB.out | apply zi | apply zg | apply zh | refine zf ?_ GE249.out) | exact HB.out)⟩) : p := h
theorem zH14 {p : Prop} (h : p := by exact ⟨by first | rfl | (simp; done), by repeat (first | (with_reducible first | exact HI0.out | apply IsS67.alloc | apply IsS67.drewN | apply IsS67.drew | apply IsS67.set_1 | apply IsS67.set_2) | exact HI0.out), by repeat (first | (with_reducible first | exact HB.out | apply zi | apply zg | apply zh | refine zf ?_ HG0) | exact HB.out), by repeat (first | (with_reducible first | exact HK.out | apply keep_alloc | apply keep_drewN | apply keep_drew | apply zs) | exact HK.out)⟩) : p := h
theorem zH15 {p : Prop} (h : p := by exact ⟨by first | rfl | (simp [errW_none, errW_some] <;> rfl) | (simp only [← hji25]; first | rfl | (simp [errW_none, errW_some] <;> rfl)) | (simp [*, errW_none, errW_some] <;> rfl), by repeat (first | (with_reducible first | exact HB.out | apply zi | apply zg | apply zh | refine zf ?_ GE297.out | refine zf ?_ GE315.out | refine zf ?_ GE318.out) | exact HB.out)⟩) : p := h
theorem zH16 {p : Prop} (h : p := by exact ⟨by first | rfl | (simp [errW_none, errW_some] <;> rfl) | (simp [*, errW_none, errW_some] <;> rfl), by repeat (first | (with_reducible first | exact HB.out | apply zi | apply zg | apply zh | refine zf ?_ GE1.out | refine zf ?_ GE2.out | refine zf ?_ GE214.out) | exact HB.out)⟩) : p := h
theorem zH17 {p : Prop} (h : p := by repeat (first | (with_reducible first | exact HI0.out | apply IsS67.alloc | apply IsS67.drewN | apply IsS67.drew | apply IsS67.set_1 | apply IsS67.set_2 | refine IsS67.far ?_ (IsS67.ne_blk HI0.out BK142.out zG70) _ | refine IsS67.far ?_ NB0_142.out _) | exact HI0.out)) : p := h
theorem zH18 {p : Prop} (h : p := by repeat (first | (with_reducible first | exact HI0.out | apply IsS67.alloc | apply IsS67.drewN | apply IsS67.drew | apply IsS67.set_1 | apply IsS67.set_2 | refine IsS67.far ?_ (IsS67.ne_blk HI0.out BK142.out zG70) _ | refine IsS67.far ?_ NB0_142.out _) | exact HI0.out)) : p := h
theorem zH19 {p : Prop} (h : p := by repeat (first | (with_reducible first | exact HK.out | apply Kept.alloc | apply Kept.drewN | apply Kept.drew | refine Kept.setCell ?_ (.inl (Or.inr rfl)) _ | refine Kept.setCell ?_ (.inr GW231.out) _ | refine Kept.setCell ?_ (.inr GW232.out) _) | exact HK.out)) : p := h
theorem zH20 {p : Prop} (h : p := by exact ⟨by first | rfl | (simp [errW_none, errW_some] <;> rfl) | (simp [*, errW_none, errW_some] <;> rfl), by repeat (first | (with_reducible first | exact HB.out | apply zi | apply zg | apply zh | refine zf ?_ GE28.out | refine zf ?_ GE29.out) | exact HB.out)⟩) : p := h
theorem zH21 {p : Prop} (h : p := by exact ⟨by first | rfl | (simp [errW_none, errW_some] <;> rfl) | (simp [*, errW_none, errW_some] <;> rfl), by repeat (first | (with_reducible first | exact HB.out | apply zi | apply zg | apply zh | refine zf ?_ GE273.out) | exact HB.out)⟩) : p := h
theorem zH22 {p : Prop} (h : p := by exact ⟨by first | rfl | (simp [errW_none, errW_some] <;> rfl) | (simp [*, errW_none, errW_some] <;> rfl), by repeat (first | (with_reducible first | exact HB.out | apply zi | apply zg | apply zh | refine zf ?_ GE297.out) | exact HB.out)⟩) : p := h
theorem zH23 {p : Prop} (h : p := by exact ⟨by first | rfl | (simp [errW_none, errW_some] <;> rfl) | (simp [*, errW_none, errW_some] <;> rfl), by repeat (first | (with_reducible first | exact HB.out | apply zi | apply zg | apply zh | refine zf ?_ GE270.out) | exact HB.out)⟩) : p := h
theorem zH24 {p : Prop} (h : p := by repeat (first | (with_reducible first | exact HB.out | apply zi | apply zg | apply zh | refine zf ?_ GE297.out | refine zf ?_ GE315.out | refine zf ?_ GE318.out | refine zf ?_ GE324.out) | exact HB.out)) : p := h
theorem zH25 {p : Prop} (h : p := by repeat (first | (with_reducible first | exact HB.out | apply zi | apply zg | apply zh | refine zf ?_ GE297.out | refine zf ?_ GE315.out | refine zf ?_ GE318.out | refine zf ?_ GE321.out) | exact HB.out)) : p := h
theorem zH26 {p : Prop} (h : p := by repeat (first | (with_reducible first | exact HB.out | apply zi | apply zg | apply zh | refine zf ?_ GE297.out | refine zf ?_ GE315.out | refine zf ?_ GE318.out) | exact HB.out)) : p := h
theorem zH27 {p : Prop} (h : p := by repeat (first | (with_reducible first | exact HB.out | apply zi | apply zg | apply zh | refine zf ?_ GE0.out | refine zf ?_ GE231.out | refine zf ?_ GE232.out) | exact HB.out)) : p := h
theorem zH28 {p : Prop} (h : p := by repeat (first | (with_reducible first | exact HB.out | apply zi | apply zg | apply zh | refine zf ?_ GE0.out | refine zf ?_ GE231.out | refine zf ?_ GE232.out) | exact HB.out)) : p := h
theorem zH29 {p : Prop} (h : p := by first | rfl | (simp [errW_none, errW_some] <;> rfl) | (simp only [← hji25]; first | rfl | (simp [errW_none, errW_some] <;> rfl)) | (simp [*, errW_none, errW_some] <;> rfl)) : p := h
theorem zH30 {p : Prop} (h : p := by repeat (first | (with_reducible first | exact HI0.out | apply IsS67.alloc | apply IsS67.drewN | apply IsS67.drew | apply IsS67.set_1 | apply IsS67.set_2) | exact HI0.out)) : p := h
theorem zH31 {p : Prop} (h : p := by repeat (first | (with_reducible first | exact HK.out | apply zs | apply keep_drewN | apply keep_drew | apply keep_alloc | refine keep_far ?_ GW142.out _) | exact HK.out)) : p := h
theorem zH32 {p : Prop} (h : p := by repeat (first | (with_reducible first | exact HI0.out | apply IsS67.alloc | apply IsS67.drewN | apply IsS67.drew | apply IsS67.set_1 | apply IsS67.set_2) | exact HI0.out)) : p := h
theorem zH33 {p : Prop} (h : p := by repeat (first | (with_reducible first | exact HB.out | apply zi | apply zg | apply zh | refine zf ?_ (IsS67.ge HI0.out) | refine zf ?_ GE142.out) | exact HB.out)) : p := h
theorem zH34 {p : Prop} (h : p := by repeat (first | (with_reducible first | exact HB.out | apply zi | apply zg | apply zh | refine zf ?_ (IsS67.ge HI0.out) | refine zf ?_ GE142.out) | exact HB.out)) : p := h
theorem zH35 {p : Prop} (h : p := by exact ⟨_, x + 1, rfl, by rw [hl1], by have := X0.out; omega, by have := X1.out; omega, by have := X0.out; omega, ⟨by rw [HS.out, sumN, hp]; rfl⟩, ⟨HB9.out⟩⟩) : p := h
theorem zH36 {p : Prop} (h : p := by repeat (first | (with_reducible first | exact HB.out | apply zi | apply zg | apply zh | refine zf ?_ GE249.out | refine zf ?_ GE254.out) | exact HB.out)) : p := h
theorem zH37 {p : Prop} (h : p := by repeat (first | (with_reducible first | exact HB.out | apply zi | apply zg | apply zh | refine zf ?_ GE297.out | refine zf ?_ GE315.out) | exact HB.out)) : p := h
theorem zH38 {p : Prop} (h : p := by refine ⟨hr.1, fun j p hj => d.M_mono (fun k hk => hk) (d.M_move (fun k hk => hfar k (fun he => hk.2 (by rw [he]; simp [Value.ownBlock]))) (hr.2 j p hj))⟩) : p := h
theorem zH39 {p : Prop} (h : p := by rw [← hq_]; exact (by repeat (first | (with_reducible first | exact HB.out | apply zi | apply zg | apply zh | refine zf ?_ GE249.out) | exact HB.out))) : p := h
theorem zH40 {p : Prop} (h : p := by repeat (first | (with_reducible first | exact HB.out | apply zi | apply zg | apply zh | refine zf ?_ GE28.out | refine zf ?_ GE29.out) | exact HB.out)) : p := h
theorem zH41 {p : Prop} (h : p := by repeat (first | exact (zao HR0.out HB.out) | (with_reducible refine zad ?_ _) | (with_reducible refine zae ?_ _) | (with_reducible refine zaf ?_))) : p := h
theorem zH42 {p : Prop} (h : p := by repeat (first | (with_reducible first | exact HB.out | apply zi | apply zg | apply zh | refine zf ?_ (IsS67.ge HI0.out)) | exact HB.out)) : p := h
theorem zH43 {p : Prop} (h : p := by repeat (first | (with_reducible first | exact HK.out | apply zs | apply keep_drewN | apply keep_drew | apply keep_alloc) | exact HK.out)) : p := h
theorem zH44 {p : Prop} (h : p := by repeat (first | (with_reducible first | exact HB.out | apply zi | apply zg | apply zh | refine zf ?_ (IsS67.ge HI0.out)) | exact HB.out)) : p := h
theorem zH45 {p : Prop} (h : p := by repeat (first | (with_reducible first | exact HB.out | apply zi | apply zg | apply zh | refine zf ?_ GE249.out) | exact HB.out)) : p := h
theorem zH46 {p : Prop} (h : p := by repeat (first | (with_reducible first | exact HB.out | apply zi | apply zg | apply zh | refine zf ?_ GE297.out) | exact HB.out)) : p := h
theorem zH47 {p : Prop} (h : p := by repeat (first | (with_reducible first | exact HB.out | apply zi | apply zg | apply zh | refine zf ?_ GE273.out) | exact HB.out)) : p := h
theorem zH48 {p : Prop} (h : p := by repeat (first | (with_reducible first | exact HB.out | apply zi | apply zg | apply zh | refine zf ?_ GE270.out) | exact HB.out)) : p := h
theorem zH49 {p : Prop} (h : p := by have := HJ2.out; have := HJ10.out; have := HJ28.out; have := HJ48.out; have := HK5.out; first | omega | exact Nat.le_refl _) : p := h
theorem zH50 {p : Prop} (h : p := by rw [← hq_]; exact (by (with_reducible repeat (first | refine zc ?_ _ | refine ze ?_ | refine zb ?_ _)); exact BK249.out)) : p := h
theorem zH51 {p : Prop} (h : p := by exact ⟨by first | rfl | (simp; done) | (simp [*]; done), by repeat (first | exact Drawn0.refl _ | apply Drawn0.step)⟩) : p := h
theorem zH52 {p : Prop} (h : p := by have := HJ2.out; have := HJ10.out; have := HJ28.out; have := HJ48.out; have := HK5.out; have := HJ73.out; omega) : p := h
theorem zH53 {p : Prop} (h : p := by have := HJ2.out; have := HJ10.out; have := HJ28.out; have := HJ48.out; have := HK5.out; have := HK6.out; omega) : p := h
theorem zH54 {p : Prop} (h : p := by (with_reducible repeat (first | apply zj | apply zk | apply zl)); exact zn HO_298005.out (fun _ hk => hk.2)) : p := h
theorem zH55 {p : Prop} (h : p := by (with_reducible repeat (first | apply zj | apply zk | apply zl)); exact zn HO_298005.out (fun _ hk => hk.1)) : p := h
theorem zH56 {p : Prop} (h : p := by (with_reducible repeat (first | apply zj | apply zk | apply zl)); exact zn HO_316005.out (fun _ hk => hk.1)) : p := h
theorem zH57 {p : Prop} (h : p := by exact (by (with_reducible repeat (first | refine zc ?_ _ | refine ze ?_ | refine zb ?_ _)); exact BK28.out)) : p := h
theorem zH58 {p : Prop} (h : p := by exact (by (with_reducible repeat (first | refine zc ?_ _ | refine ze ?_ | refine zb ?_ _)); exact BK29.out)) : p := h
theorem zH59 {p : Prop} (h : p := by (with_reducible repeat (first | apply zj | apply zk | apply zl)); exact zn HO313.out (fun _ hk => hk.2)) : p := h
theorem zH60 {p : Prop} (h : p := by repeat (first | (with_reducible first | exact HB.out | apply zi | apply zg | apply zh) | exact HB.out)) : p := h
theorem zH61 {p : Prop} (h : p := by (with_reducible repeat (first | refine zc ?_ _ | refine ze ?_ | refine zb ?_ _)); exact BK231.out) : p := h
theorem zH62 {p : Prop} (h : p := by (with_reducible repeat (first | refine zc ?_ _ | refine ze ?_ | refine zb ?_ _)); exact BK232.out) : p := h
theorem zH63 {p : Prop} (h : p := by (with_reducible repeat (first | refine zc ?_ _ | refine ze ?_ | refine zb ?_ _)); exact BK273.out) : p := h
theorem zH64 {p : Prop} (h : p := by (with_reducible repeat (first | refine zc ?_ _ | refine ze ?_ | refine zb ?_ _)); exact BK321.out) : p := h
theorem zH65 {p : Prop} (h : p := by (with_reducible repeat (first | refine zc ?_ _ | refine ze ?_ | refine zb ?_ _)); exact BK142.out) : p := h
theorem zH66 {p : Prop} (h : p := by (with_reducible repeat (first | refine zc ?_ _ | refine ze ?_ | refine zb ?_ _)); exact BK318.out) : p := h
theorem zH67 {p : Prop} (h : p := by (with_reducible repeat (first | refine zc ?_ _ | refine ze ?_ | refine zb ?_ _)); exact BK315.out) : p := h
theorem zH68 {p : Prop} (h : p := by (with_reducible repeat (first | refine zc ?_ _ | refine ze ?_ | refine zb ?_ _)); exact BK297.out) : p := h
theorem zH69 {p : Prop} (h : p := by (with_reducible repeat (first | refine zc ?_ _ | refine ze ?_ | refine zb ?_ _)); exact BK0.out) : p := h
theorem zH70 {p : Prop} (h : p := by first | rfl | (simp [errW_none, errW_some] <;> rfl) | (simp [*, errW_none, errW_some] <;> rfl)) : p := h
theorem zH71 {p : Prop} (h : p := by (with_reducible repeat (first | apply zj | apply zk | apply zl)); exact HO_298005.out) : p := h
theorem zH72 {p : Prop} (h : p := by (with_reducible repeat (first | apply zj | apply zk | apply zl)); exact HO_316005.out) : p := h
theorem zH73 {p : Prop} (h : p := by (with_reducible repeat (first | apply zj | apply zk | apply zl)); exact HO0_5.out) : p := h
theorem zH74 {p : Prop} (h : p := by (with_reducible repeat (first | apply zj | apply zk | apply zl)); exact HO_3.out) : p := h
theorem zH75 {p : Prop} (h : p := by have := HJ2.out; have := HJ10.out; first | omega | exact Nat.le_refl _) : p := h
theorem zH76 {p : Prop} (h : p := by have := HK1.out; have := HJ13.out; have := HJ48.out; omega) : p := h
theorem zH77 {p : Prop} (h : p := by repeat (first | exact Drawn0.refl _ | apply Drawn0.step)) : p := h
theorem zH78 {p : Prop} (h : p := by have := HK1.out; first | omega | exact Nat.le_refl _) : p := h
theorem zH79 {p : Prop} (h : p := by exact (keep_size (w := w) (g := g) (row := none) zG54)) : p := h
theorem zH80 {p : Prop} (h : p := by exact ⟨_, rfl, HF.1, HF.2.1, HF.2.2.1, HF.2.2.2⟩) : p := h
theorem zH81 {p : Prop} (h : p := by first | (go_simp; done) | (go_simp; rfl)) : p := h
theorem zH82 {p : Prop} (h : p := by first | omega | exact Nat.le_refl _) : p := h
theorem zH83 {p : Prop} (h : p := by have := Y0.out; omega) : p := h
theorem zK84 {p : Prop} (h : p := by (with_reducible repeat (first | refine zc ?_ _ | refine ze ?_ | refine zb ?_ _)); refine zr (cs := (zs6 t306 t307 t308 t309 t310 (.slice none 0 0))) ?_ 5 _ rfl; (with_reducible repeat (first | refine zc ?_ _ | refine ze ?_ | refine zb ?_ _)); refine zr (cs := (zs6 t306 t307 t308 t309 0 (.slice none 0 0))) ?_ 4 _ rfl; (with_reducible repeat (first | refine zc ?_ _ | refine ze ?_ | refine zb ?_ _)); refine zr (cs := (zs6 t306 t307 t308 0 0 (.slice none 0 0))) ?_ 3 _ rfl; (with_reducible repeat (first | refine zc ?_ _ | refine ze ?_ | refine zb ?_ _)); refine zr (cs := (zs6 t306 t307 0 0 0 (.slice none 0 0))) ?_ 2 _ rfl; (with_reducible repeat (first | refine zc ?_ _ | refine ze ?_ | refine zb ?_ _)); refine zr (cs := (zs6 t306 0 0 0 0 (.slice none 0 0))) ?_ 1 _ rfl; (with_reducible repeat (first | refine zc ?_ _ | refine ze ?_ | refine zb ?_ _)); refine zr (cs := (zs6 0 0 0 0 0 (.slice none 0 0))) ?_ 0 _ rfl; (with_reducible repeat (first | refine zc ?_ _ | refine ze ?_ | refine zb ?_ _)); exact BK315.out) : p := h
theorem zK85 {p : Prop} (h : p := by (with_reducible repeat (first | refine zc ?_ _ | refine ze ?_ | refine zb ?_ _)); refine zr (cs := (za5 3 (⟨#[]⟩ : ByteArray) 0 (wrap64 (x4_1 + t152)) (wrap64 (x4_1 + t139)))) ?_ 4 _ rfl; (with_reducible repeat (first | refine zc ?_ _ | refine ze ?_ | refine zb ?_ _)); refine zr (cs := (za5 3 (⟨#[]⟩ : ByteArray) 0 (wrap64 (1 + t136)) (wrap64 (x4_1 + t139)))) ?_ 3 _ rfl; (with_reducible repeat (first | refine zc ?_ _ | refine ze ?_ | refine zb ?_ _)); refine zr (cs := (za5 3 (⟨#[]⟩ : ByteArray) (wrap64 (1 + t133)) (wrap64 (1 + t136)) (wrap64 (x4_1 + t139)))) ?_ 2 _ rfl; (with_reducible repeat (first | refine zc ?_ _ | refine ze ?_ | refine zb ?_ _)); refine zr (cs := (za5 3 t130 (wrap64 (1 + t133)) (wrap64 (1 + t136)) (wrap64 (x4_1 + t139)))) ?_ 1 _ rfl; (with_reducible repeat (first | refine zc ?_ _ | refine ze ?_ | refine zb ?_ _)); refine zr (cs := (za5 1 t130 (wrap64 (1 + t133)) (wrap64 (1 + t136)) (wrap64 (x4_1 + t139)))) ?_ 0 _ rfl; (with_reducible repeat (first | refine zc ?_ _ | refine ze ?_ | refine zb ?_ _)); exact BK142.out) : p := h
theorem zK86 {p : Prop} (h : p := by (with_reducible repeat (first | refine zc ?_ _ | refine ze ?_ | refine zb ?_ _)); refine zr (cs := (zs6 0 0 0 0 0 (.slice none 0 0))) ?_ 5 _ rfl; (with_reducible repeat (first | refine zc ?_ _ | refine ze ?_ | refine zb ?_ _)); refine zr (cs := (zs6 0 0 0 0 0 (.slice none 0 0))) ?_ 4 _ rfl; (with_reducible repeat (first | refine zc ?_ _ | refine ze ?_ | refine zb ?_ _)); refine zr (cs := (zs6 0 0 0 0 0 (.slice none 0 0))) ?_ 3 _ rfl; (with_reducible repeat (first | refine zc ?_ _ | refine ze ?_ | refine zb ?_ _)); refine zr (cs := (zs6 0 0 0 0 0 (.slice none 0 0))) ?_ 2 _ rfl; (with_reducible repeat (first | refine zc ?_ _ | refine ze ?_ | refine zb ?_ _)); refine zr (cs := (zs6 0 0 0 0 0 (.slice none 0 0))) ?_ 1 _ rfl; (with_reducible repeat (first | refine zc ?_ _ | refine ze ?_ | refine zb ?_ _)); refine zr (cs := (zs6 0 0 0 0 0 (.slice none 0 0))) ?_ 0 _ rfl; (with_reducible repeat (first | refine zc ?_ _ | refine ze ?_ | refine zb ?_ _)); exact BK249.out) : p := h
theorem zK87 {p : Prop} (h : p := by (with_reducible repeat (first | refine zc ?_ _ | refine ze ?_ | refine zb ?_ _)); refine zr (cs := (za5 2 t130 0 (wrap64 (1 + t146)) (wrap64 (x4_1 + t139)))) ?_ 4 _ rfl; (with_reducible repeat (first | refine zc ?_ _ | refine ze ?_ | refine zb ?_ _)); refine zr (cs := (za5 2 t130 0 (wrap64 (1 + t136)) (wrap64 (x4_1 + t139)))) ?_ 3 _ rfl; (with_reducible repeat (first | refine zc ?_ _ | refine ze ?_ | refine zb ?_ _)); refine zr (cs := (za5 2 t130 (wrap64 (1 + t133)) (wrap64 (1 + t136)) (wrap64 (x4_1 + t139)))) ?_ 2 _ rfl; (with_reducible repeat (first | refine zc ?_ _ | refine ze ?_ | refine zb ?_ _)); refine zr (cs := (za5 2 t130 (wrap64 (1 + t133)) (wrap64 (1 + t136)) (wrap64 (x4_1 + t139)))) ?_ 1 _ rfl; (with_reducible repeat (first | refine zc ?_ _ | refine ze ?_ | refine zb ?_ _)); refine zr (cs := (za5 1 t130 (wrap64 (1 + t133)) (wrap64 (1 + t136)) (wrap64 (x4_1 + t139)))) ?_ 0 _ rfl; (with_reducible repeat (first | refine zc ?_ _ | refine ze ?_ | refine zb ?_ _)); exact BK142.out) : p := h
theorem zK88 {p : Prop} (h : p := by (with_reducible repeat (first | refine zc ?_ _ | refine ze ?_ | refine zb ?_ _)); refine zr (cs := (zl5 ((rd_T38 t293 x18_6).f0) ((rd_T38 t293 x18_6).f1) ((rd_T38 t293 x18_6).f2) ((rd_T38 t293 x18_6).f3) false)) ?_ 4 _ rfl; (with_reducible repeat (first | refine zc ?_ _ | refine ze ?_ | refine zb ?_ _)); refine zr (cs := (zl5 ((rd_T38 t293 x18_6).f0) ((rd_T38 t293 x18_6).f1) ((rd_T38 t293 x18_6).f2) 0 false)) ?_ 3 _ rfl; (with_reducible repeat (first | refine zc ?_ _ | refine ze ?_ | refine zb ?_ _)); refine zr (cs := (zl5 ((rd_T38 t293 x18_6).f0) ((rd_T38 t293 x18_6).f1) 0 0 false)) ?_ 2 _ rfl; (with_reducible repeat (first | refine zc ?_ _ | refine ze ?_ | refine zb ?_ _)); refine zr (cs := (zl5 ((rd_T38 t293 x18_6).f0) 0 0 0 false)) ?_ 1 _ rfl; (with_reducible repeat (first | refine zc ?_ _ | refine ze ?_ | refine zb ?_ _)); refine zr (cs := (zl5 (⟨#[]⟩ : ByteArray) 0 0 0 false)) ?_ 0 _ rfl; (with_reducible repeat (first | refine zc ?_ _ | refine ze ?_ | refine zb ?_ _)); exact BK324.out) : p := h
theorem zK89 {p : Prop} (h : p := by (with_reducible repeat (first | refine zc ?_ _ | refine ze ?_ | refine zb ?_ _)); refine zp ?_ NB297_315.out _; (with_reducible repeat (first | refine zc ?_ _ | refine ze ?_ | refine zb ?_ _)); refine zp ?_ NB297_315.out _; (with_reducible repeat (first | refine zc ?_ _ | refine ze ?_ | refine zb ?_ _)); refine zp ?_ NB297_315.out _; (with_reducible repeat (first | refine zc ?_ _ | refine ze ?_ | refine zb ?_ _)); refine zp ?_ NB297_315.out _; (with_reducible repeat (first | refine zc ?_ _ | refine ze ?_ | refine zb ?_ _)); refine zp ?_ NB297_315.out _; (with_reducible repeat (first | refine zc ?_ _ | refine ze ?_ | refine zb ?_ _)); refine zp ?_ NB297_315.out _; (with_reducible repeat (first | refine zc ?_ _ | refine ze ?_ | refine zb ?_ _)); exact BK297.out) : p := h
theorem zK90 {p : Prop} (h : p := by (with_reducible repeat (first | refine zc ?_ _ | refine ze ?_ | refine zb ?_ _)); refine zp ?_ NB297_324.out _; (with_reducible repeat (first | refine zc ?_ _ | refine ze ?_ | refine zb ?_ _)); refine zp ?_ NB297_324.out _; (with_reducible repeat (first | refine zc ?_ _ | refine ze ?_ | refine zb ?_ _)); refine zp ?_ NB297_324.out _; (with_reducible repeat (first | refine zc ?_ _ | refine ze ?_ | refine zb ?_ _)); refine zp ?_ NB297_324.out _; (with_reducible repeat (first | refine zc ?_ _ | refine ze ?_ | refine zb ?_ _)); refine zp ?_ NB297_324.out _; (with_reducible repeat (first | refine zc ?_ _ | refine ze ?_ | refine zb ?_ _)); exact BK297.out) : p := h
theorem zK91 {p : Prop} (h : p := by (with_reducible repeat (first | refine zc ?_ _ | refine ze ?_ | refine zb ?_ _)); refine zp ?_ NB315_324.out _; (with_reducible repeat (first | refine zc ?_ _ | refine ze ?_ | refine zb ?_ _)); refine zp ?_ NB315_324.out _; (with_reducible repeat (first | refine zc ?_ _ | refine ze ?_ | refine zb ?_ _)); refine zp ?_ NB315_324.out _; (with_reducible repeat (first | refine zc ?_ _ | refine ze ?_ | refine zb ?_ _)); refine zp ?_ NB315_324.out _; (with_reducible repeat (first | refine zc ?_ _ | refine ze ?_ | refine zb ?_ _)); refine zp ?_ NB315_324.out _; (with_reducible repeat (first | refine zc ?_ _ | refine ze ?_ | refine zb ?_ _)); exact BK315.out) : p := h
theorem zK92 {p : Prop} (h : p := by (with_reducible repeat (first | refine zc ?_ _ | refine ze ?_ | refine zb ?_ _)); refine zp ?_ NB318_324.out _; (with_reducible repeat (first | refine zc ?_ _ | refine ze ?_ | refine zb ?_ _)); refine zp ?_ NB318_324.out _; (with_reducible repeat (first | refine zc ?_ _ | refine ze ?_ | refine zb ?_ _)); refine zp ?_ NB318_324.out _; (with_reducible repeat (first | refine zc ?_ _ | refine ze ?_ | refine zb ?_ _)); refine zp ?_ NB318_324.out _; (with_reducible repeat (first | refine zc ?_ _ | refine ze ?_ | refine zb ?_ _)); refine zp ?_ NB318_324.out _; (with_reducible repeat (first | refine zc ?_ _ | refine ze ?_ | refine zb ?_ _)); exact BK318.out) : p := h
theorem zK93 {p : Prop} (h : p := by (with_reducible repeat (first | apply zj | apply zk | apply zl)); exact (zn (zm (p := ⟨gb321, 4, none⟩) (zm (p := ⟨gb321, 3, none⟩) (zm (p := ⟨gb321, 2, none⟩) (zm (p := ⟨gb321, 1, none⟩) (zm (p := ⟨gb321, 0, none⟩) (zn HO_316005.out (fun k_ hk => (⟨hk, hk.2⟩ : _ ∧ k_ ≠ gb321))) (fun _ hk => hk.2) (.string ((rd_T38 t293 x15_5).f0))) (fun _ hk => hk.2) (.int .i64 ((rd_T38 t293 x15_5).f1))) (fun _ hk => hk.2) (.int .i64 ((rd_T38 t293 x15_5).f2))) (fun _ hk => hk.2) (.int .i64 ((rd_T38 t293 x15_5).f3))) (fun _ hk => hk.2) (.bool ((rd_T38 t293 x15_5).f4))) (fun _ h_ => h_.1))) : p := h
theorem zK94 {p : Prop} (h : p := by (with_reducible repeat (first | apply zj | apply zk | apply zl)); exact (zn (zm (p := ⟨gb324, 4, none⟩) (zm (p := ⟨gb324, 3, none⟩) (zm (p := ⟨gb324, 2, none⟩) (zm (p := ⟨gb324, 1, none⟩) (zm (p := ⟨gb324, 0, none⟩) (zn HO_298005.out (fun k_ hk => (⟨hk, hk.2⟩ : _ ∧ k_ ≠ gb324))) (fun _ hk => hk.2) (.string ((rd_T38 t293 x18_6).f0))) (fun _ hk => hk.2) (.int .i64 ((rd_T38 t293 x18_6).f1))) (fun _ hk => hk.2) (.int .i64 ((rd_T38 t293 x18_6).f2))) (fun _ hk => hk.2) (.int .i64 ((rd_T38 t293 x18_6).f3))) (fun _ hk => hk.2) (.bool false)) (fun _ h_ => h_.1))) : p := h
theorem zK95 {p : Prop} (h : p := by (with_reducible repeat (first | apply zj | apply zk | apply zl)); exact (zn (zm (p := ⟨gb324, 4, none⟩) (zm (p := ⟨gb324, 3, none⟩) (zm (p := ⟨gb324, 2, none⟩) (zm (p := ⟨gb324, 1, none⟩) (zm (p := ⟨gb324, 0, none⟩) (zn HO_316005.out (fun k_ hk => (⟨hk, hk.2⟩ : _ ∧ k_ ≠ gb324))) (fun _ hk => hk.2) (.string ((rd_T38 t293 x18_6).f0))) (fun _ hk => hk.2) (.int .i64 ((rd_T38 t293 x18_6).f1))) (fun _ hk => hk.2) (.int .i64 ((rd_T38 t293 x18_6).f2))) (fun _ hk => hk.2) (.int .i64 ((rd_T38 t293 x18_6).f3))) (fun _ hk => hk.2) (.bool false)) (fun _ h_ => h_.1))) : p := h
theorem zK96 {p : Prop} (h : p := by (with_reducible repeat (first | apply zj | apply zk | apply zl)); exact (zn (zm (p := ⟨gb315, 5, none⟩) (zm (p := ⟨gb315, 4, none⟩) (zm (p := ⟨gb315, 3, none⟩) (zm (p := ⟨gb315, 2, none⟩) (zm (p := ⟨gb315, 1, none⟩) (zm (p := ⟨gb315, 0, none⟩) (zz HO_298005.out BK315.out zG70) (fun _ hk => hk.2) (.int .i64 t306)) (fun _ hk => hk.2) (.int .i64 t307)) (fun _ hk => hk.2) (.int .i64 t308)) (fun _ hk => hk.2) (.int .i64 t309)) (fun _ hk => hk.2) (.int .i64 t310)) (fun _ hk => hk.2) (.slice Ao35 t311.length co35)) (fun _ h_ => h_.1))) : p := h
theorem zK97 {p : Prop} (h : p := by (with_reducible repeat (first | apply zj | apply zk | apply zl)); exact (zn (zm (p := ⟨gb297, 5, none⟩) (zm (p := ⟨gb297, 4, none⟩) (zm (p := ⟨gb297, 3, none⟩) (zm (p := ⟨gb297, 2, none⟩) (zm (p := ⟨gb297, 1, none⟩) (zm (p := ⟨gb297, 0, none⟩) (zz HO295.out BK297.out zG70) (fun _ hk => hk.2) (.int .i64 t288)) (fun _ hk => hk.2) (.int .i64 t289)) (fun _ hk => hk.2) (.int .i64 t290)) (fun _ hk => hk.2) (.int .i64 t291)) (fun _ hk => hk.2) (.int .i64 t292)) (fun _ hk => hk.2) (.slice Ao18 t293.length co18)) (fun _ h_ => h_.1))) : p := h
theorem zK98 {p : Prop} (h : p := by (with_reducible repeat (first | apply zj | apply zk | apply zl)); exact (zn (zm (p := ⟨gb315, 5, none⟩) (zm (p := ⟨gb315, 4, none⟩) (zm (p := ⟨gb315, 3, none⟩) (zm (p := ⟨gb315, 2, none⟩) (zm (p := ⟨gb315, 1, none⟩) (zm (p := ⟨gb315, 0, none⟩) (zz HO305.out BK315.out zG70) (fun _ hk => hk.2) (.int .i64 t306)) (fun _ hk => hk.2) (.int .i64 t307)) (fun _ hk => hk.2) (.int .i64 t308)) (fun _ hk => hk.2) (.int .i64 t309)) (fun _ hk => hk.2) (.int .i64 t310)) (fun _ hk => hk.2) (.slice Ao35 t311.length co35)) (fun _ h_ => h_.1))) : p := h
theorem zK99 {p : Prop} (h : p := by (with_reducible repeat (first | apply zj | apply zk | apply zl)); exact (zn (zm (p := ⟨gb315, 5, none⟩) (zm (p := ⟨gb315, 4, none⟩) (zm (p := ⟨gb315, 3, none⟩) (zm (p := ⟨gb315, 2, none⟩) (zm (p := ⟨gb315, 1, none⟩) (zm (p := ⟨gb315, 0, none⟩) (zz HO313.out BK315.out zG70) (fun _ hk => hk.2) (.int .i64 t306)) (fun _ hk => hk.2) (.int .i64 t307)) (fun _ hk => hk.2) (.int .i64 t308)) (fun _ hk => hk.2) (.int .i64 t309)) (fun _ hk => hk.2) (.int .i64 t310)) (fun _ hk => hk.2) (.slice Ao35 t311.length co35)) (fun _ h_ => h_.1))) : p := h
theorem zK100 {p : Prop} (h : p := by (with_reducible repeat (first | apply zj | apply zk | apply zl)); exact (zn (zm (p := ⟨gb315, 5, none⟩) (zm (p := ⟨gb315, 4, none⟩) (zm (p := ⟨gb315, 3, none⟩) (zm (p := ⟨gb315, 2, none⟩) (zm (p := ⟨gb315, 1, none⟩) (zm (p := ⟨gb315, 0, none⟩) (zz HO_5.out BK315.out zG70) (fun _ hk => hk.2) (.int .i64 t306)) (fun _ hk => hk.2) (.int .i64 t307)) (fun _ hk => hk.2) (.int .i64 t308)) (fun _ hk => hk.2) (.int .i64 t309)) (fun _ hk => hk.2) (.int .i64 t310)) (fun _ hk => hk.2) (.slice Ao35 t311.length co35)) (fun _ h_ => h_.1))) : p := h
theorem zK101 {p : Prop} (h : p := by (with_reducible repeat (first | refine zc ?_ _ | refine ze ?_ | refine zb ?_ _)); refine zr (cs := (za5 (wrap64 (4 + t158)) t130 (wrap64 (1 + t133)) (wrap64 (1 + t136)) (wrap64 (x4_1 + t139)))) ?_ 3 _ rfl; (with_reducible repeat (first | refine zc ?_ _ | refine ze ?_ | refine zb ?_ _)); exact BK142.out) : p := h
theorem zK102 {p : Prop} (h : p := by first | exact HK.out.1 | exact (show Kept w _ (fun k_ => (P0_5_ k_) ∨ k_ = gi0) from by repeat (first | (with_reducible first | exact HK.out | apply Kept.alloc | apply Kept.drewN | apply Kept.drew | refine Kept.setCell ?_ (.inl (Or.inr rfl)) _ | refine Kept.setCell ?_ (.inr GW231.out) _ | refine Kept.setCell ?_ (.inr GW232.out) _) | exact HK.out)).1) : p := h
theorem zK103 {p : Prop} (h : p := by (with_reducible repeat (first | refine zc ?_ _ | refine ze ?_ | refine zb ?_ _)); refine zp ?_ NB0_232.out _; (with_reducible repeat (first | refine zc ?_ _ | refine ze ?_ | refine zb ?_ _)); refine zp ?_ NB0_232.out _; (with_reducible repeat (first | refine zc ?_ _ | refine ze ?_ | refine zb ?_ _)); exact BK0.out) : p := h
theorem zK104 {p : Prop} (h : p := by first | exact HK.out.1 | exact (show Kept w _ (fun k_ => (P0_5_ k_) ∨ k_ = gi0) from by repeat (first | (with_reducible first | exact HK.out | apply Kept.alloc | apply Kept.drewN | apply Kept.drew | refine Kept.setCell ?_ (.inl (Or.inr rfl)) _ | refine Kept.setCell ?_ (.inr GW231.out) _) | exact HK.out)).1) : p := h
theorem zK105 {p : Prop} (h : p := by repeat (first | (with_reducible first | exact HI0.out | apply IsS67.alloc | apply IsS67.drewN | apply IsS67.drew | apply IsS67.set_1 | apply IsS67.set_2 | refine IsS67.far ?_ (IsS67.ne_blk HI0.out BK142.out zG70) _ | refine IsS67.far ?_ NB0_142.out _) | exact HI0.out)) : p := h
theorem zK106 {p : Prop} (h : p := by first | exact HK.out.1 | exact (show Kept w _ (fun k_ => (P0_5_ k_) ∨ k_ = gi0) from by repeat (first | (with_reducible first | exact HK.out | apply Kept.alloc | apply Kept.drewN | apply Kept.drew | refine Kept.setCell ?_ (.inl (Or.inr rfl)) _) | exact HK.out)).1) : p := h
theorem zK107 {p : Prop} (h : p := by repeat (first | (with_reducible first | exact HK.out | apply Kept.alloc | apply Kept.drewN | apply Kept.drew | refine Kept.setCell ?_ (.inl (Or.inr rfl)) _ | refine Kept.setCell ?_ (.inr GW231.out) _ | refine Kept.setCell ?_ (.inr GW232.out) _) | exact HK.out)) : p := h
theorem zK108 {p : Prop} (h : p := by repeat (first | (with_reducible first | exact (Q_HI0_e13 h0_ h1_) | apply IsS67.alloc | apply IsS67.drewN | apply IsS67.drew | apply IsS67.set_1 | apply IsS67.set_2 | refine IsS67.far ?_ NB0_142.out _) | exact (Q_HI0_e13 h0_ h1_))) : p := h
theorem zK109 {p : Prop} (h : p := by repeat (first | (with_reducible first | exact (Q_HI0_e1 h0_ h1_) | apply IsS67.alloc | apply IsS67.drewN | apply IsS67.drew | apply IsS67.set_1 | apply IsS67.set_2 | refine IsS67.far ?_ NB0_142.out _) | exact (Q_HI0_e1 h0_ h1_))) : p := h
theorem zK110 {p : Prop} (h : p := by repeat (first | (with_reducible first | exact (Q_HI0_e5 h0_ h1_) | apply IsS67.alloc | apply IsS67.drewN | apply IsS67.drew | apply IsS67.set_1 | apply IsS67.set_2 | refine IsS67.far ?_ NB0_142.out _) | exact (Q_HI0_e5 h0_ h1_))) : p := h
theorem zK111 {p : Prop} (h : p := by repeat (first | (with_reducible first | exact (Q_HI0_e8 h0_ h1_) | apply IsS67.alloc | apply IsS67.drewN | apply IsS67.drew | apply IsS67.set_1 | apply IsS67.set_2 | refine IsS67.far ?_ NB0_142.out _) | exact (Q_HI0_e8 h0_ h1_))) : p := h
theorem zK112 {p : Prop} (h : p := by repeat (first | (with_reducible first | exact (Q_HI0_e19 h0_) | apply IsS67.alloc | apply IsS67.drewN | apply IsS67.drew | apply IsS67.set_1 | apply IsS67.set_2 | refine IsS67.far ?_ NB0_142.out _) | exact (Q_HI0_e19 h0_))) : p := h
theorem zK113 {p : Prop} (h : p := by repeat (first | (with_reducible first | exact HK.out | apply Kept.alloc | apply Kept.drewN | apply Kept.drew | refine Kept.setCell ?_ (.inl (Or.inr rfl)) _ | refine Kept.setCell ?_ (.inr GW231.out) _) | exact HK.out)) : p := h
theorem zK114 {p : Prop} (h : p := by repeat (first | (with_reducible first | exact (Q_HI0 h0_) | apply IsS67.alloc | apply IsS67.drewN | apply IsS67.drew | apply IsS67.set_1 | apply IsS67.set_2 | refine IsS67.far ?_ NB0_142.out _) | exact (Q_HI0 h0_))) : p := h
theorem zK115 {p : Prop} (h : p := by repeat (first | (with_reducible first | exact HB.out | apply zi | apply zg | apply zh | refine zf ?_ GE297.out | refine zf ?_ GE315.out | refine zf ?_ GE318.out | refine zf ?_ GE324.out) | exact HB.out)) : p := h
theorem zK116 {p : Prop} (h : p := by repeat (first | (with_reducible first | exact HB.out | apply zi | apply zg | apply zh | refine zf ?_ GE249.out | refine zf ?_ GE254.out | refine zf ?_ GE256.out) | exact HB.out)) : p := h
theorem zK117 {p : Prop} (h : p := by repeat (first | (with_reducible first | exact HB.out | apply zi | apply zg | apply zh | refine zf ?_ GE0.out | refine zf ?_ GE231.out | refine zf ?_ GE232.out) | exact HB.out)) : p := h
theorem zK118 {p : Prop} (h : p := by repeat (first | (with_reducible first | exact HK.out | apply Kept.alloc | apply Kept.drewN | apply Kept.drew | refine Kept.setCell ?_ (.inl (Or.inr rfl)) _) | exact HK.out)) : p := h
theorem zK119 {p : Prop} (h : p := by repeat (first | (with_reducible first | exact HI0.out | apply IsS67.alloc | apply IsS67.drewN | apply IsS67.drew | apply IsS67.set_1 | apply IsS67.set_2) | exact HI0.out)) : p := h
theorem zK120 {p : Prop} (h : p := by repeat (first | (with_reducible exact HR284.out) | (with_reducible refine zad ?_ _) | (with_reducible refine zae ?_ _) | (with_reducible refine zaf ?_) | exact HR284.out)) : p := h
theorem zK121 {p : Prop} (h : p := by repeat (first | (with_reducible exact HR302.out) | (with_reducible refine zad ?_ _) | (with_reducible refine zae ?_ _) | (with_reducible refine zaf ?_) | exact HR302.out)) : p := h
theorem zK122 {p : Prop} (h : p := by repeat (first | (with_reducible first | exact HB.out | apply zi | apply zg | apply zh | refine zf ?_ GE249.out | refine zf ?_ GE254.out) | exact HB.out)) : p := h
theorem zK123 {p : Prop} (h : p := by repeat (first | (with_reducible first | exact HB.out | apply zi | apply zg | apply zh | refine zf ?_ GE297.out | refine zf ?_ GE315.out) | exact HB.out)) : p := h
theorem zK124 {p : Prop} (h : p := by repeat (first | (with_reducible first | exact HB.out | apply zi | apply zg | apply zh | refine zf ?_ GE0.out | refine zf ?_ GE231.out) | exact HB.out)) : p := h
theorem zK125 {p : Prop} (h : p := by repeat (first | (with_reducible first | exact HB.out | apply zi | apply zg | apply zh | refine zf ?_ GE28.out | refine zf ?_ GE29.out) | exact HB.out)) : p := h
theorem zK126 {p : Prop} (h : p := by repeat (first | (with_reducible first | exact HB.out | apply zi | apply zg | apply zh | refine zf ?_ GE0.out | refine zf ?_ GE217.out) | exact HB.out)) : p := h
theorem zK127 {p : Prop} (h : p := by repeat (first | (with_reducible first | exact HB.out | apply zi | apply zg | apply zh | refine zf ?_ GE1.out | refine zf ?_ GE2.out) | exact HB.out)) : p := h
theorem zK128 {p : Prop} (h : p := by repeat (first | (with_reducible first | exact HB.out | apply zi | apply zg | apply zh | refine zf ?_ (IsS67.ge HI0.out)) | exact HB.out)) : p := h
theorem zK129 {p : Prop} (h : p := by repeat (first | (with_reducible first | exact HB.out | apply zi | apply zg | apply zh | refine zf ?_ GE142.out) | exact HB.out)) : p := h
theorem zK130 {p : Prop} (h : p := by repeat (first | (with_reducible first | exact HB.out | apply zi | apply zg | apply zh | refine zf ?_ GE249.out) | exact HB.out)) : p := h
theorem zK131 {p : Prop} (h : p := by repeat (first | (with_reducible first | exact HB.out | apply zi | apply zg | apply zh | refine zf ?_ GE297.out) | exact HB.out)) : p := h
theorem zK132 {p : Prop} (h : p := by repeat (first | (with_reducible first | exact HB.out | apply zi | apply zg | apply zh | refine zf ?_ GE0.out) | exact HB.out)) : p := h
theorem zK133 {p : Prop} (h : p := by first | (rw [add_block]; exact hn319_0) | (show (Addr.add _ _).block ≠ _; rw [add_block]; exact hn319_0) | exact hn319_0) : p := h
theorem zK134 {p : Prop} (h : p := by first | (rw [add_block]; exact hn319_1) | (show (Addr.add _ _).block ≠ _; rw [add_block]; exact hn319_1) | exact hn319_1) : p := h
theorem zK135 {p : Prop} (h : p := by first | (rw [add_block]; exact hn319_2) | (show (Addr.add _ _).block ≠ _; rw [add_block]; exact hn319_2) | exact hn319_2) : p := h
theorem zK136 {p : Prop} (h : p := by first | (rw [add_block]; exact hn319_3) | (show (Addr.add _ _).block ≠ _; rw [add_block]; exact hn319_3) | exact hn319_3) : p := h
theorem zK137 {p : Prop} (h : p := by first | (rw [add_block]; exact hn319_4) | (show (Addr.add _ _).block ≠ _; rw [add_block]; exact hn319_4) | exact hn319_4) : p := h
theorem zK138 {p : Prop} (h : p := by (with_reducible repeat (first | refine zc ?_ _ | refine ze ?_ | refine zb ?_ _)); exact BK231.out) : p := h
theorem zK139 {p : Prop} (h : p := by (with_reducible repeat (first | refine zc ?_ _ | refine ze ?_ | refine zb ?_ _)); exact BK232.out) : p := h
theorem zK140 {p : Prop} (h : p := by (with_reducible repeat (first | refine zc ?_ _ | refine ze ?_ | refine zb ?_ _)); exact BK217.out) : p := h
theorem zK141 {p : Prop} (h : p := by (with_reducible repeat (first | refine zc ?_ _ | refine ze ?_ | refine zb ?_ _)); exact BK249.out) : p := h
theorem zK142 {p : Prop} (h : p := by (with_reducible repeat (first | refine zc ?_ _ | refine ze ?_ | refine zb ?_ _)); exact BK254.out) : p := h
theorem zK143 {p : Prop} (h : p := by (with_reducible repeat (first | refine zc ?_ _ | refine ze ?_ | refine zb ?_ _)); exact BK1.out) : p := h
theorem zK144 {p : Prop} (h : p := by (with_reducible repeat (first | refine zc ?_ _ | refine ze ?_ | refine zb ?_ _)); exact BK2.out) : p := h
theorem zK145 {p : Prop} (h : p := by (with_reducible repeat (first | apply zj | apply zk | apply zl)); exact (Q_HO172 h0_)) : p := h
theorem zK146 {p : Prop} (h : p := by (with_reducible repeat (first | apply zj | apply zk | apply zl)); exact HO_298005.out) : p := h
theorem zK147 {p : Prop} (h : p := by (with_reducible repeat (first | apply zj | apply zk | apply zl)); exact HO_316005.out) : p := h
theorem zK148 {p : Prop} (h : p := by (try simp only [List.map_toArray, List.map_cons, List.map_nil]); first | done | rfl) : p := h
theorem zK149 {p : Prop} (h : p := by (with_reducible repeat (first | apply zj | apply zk | apply zl)); exact HO129.out) : p := h
theorem zK150 {p : Prop} (h : p := by (with_reducible repeat (first | apply zj | apply zk | apply zl)); exact HO172.out) : p := h
theorem zK151 {p : Prop} (h : p := by (with_reducible repeat (first | apply zj | apply zk | apply zl)); exact HO0_5.out) : p := h
theorem zK152 {p : Prop} (h : p := by (with_reducible repeat (first | apply zj | apply zk | apply zl)); exact HO279.out) : p := h
theorem zK153 {p : Prop} (h : p := by (with_reducible repeat (first | apply zj | apply zk | apply zl)); exact HO_6.out) : p := h
theorem zK154 {p : Prop} (h : p := by (with_reducible repeat (first | apply zj | apply zk | apply zl)); exact HO_5.out) : p := h
end Go.Proofs.Ytnkceaibkfbeaaa.F
