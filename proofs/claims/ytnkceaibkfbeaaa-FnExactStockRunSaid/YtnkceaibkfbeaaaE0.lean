-- squeezed
-- made by pp.py (wip/tools) out of the translation; Lean checks it
import Derived.Test.YtnkceaibkfbeaaaProg
import Derived.Below
import Derived.Deep.Draws
import Derived.Deep.AppendLies
import Derived.Maps.AppendAt
import Derived.OwnWalk
import Derived.Laws.BytesArg
import Derived.Laws.MakeOwn
import Derived.Laws.OwnMore
import Derived.Deep.OwnRows
import Derived.Tactics
import Derived.Lib.ConvBytes
import Derived.Laws.Slices
import Derived.WalkKit
import Derived.KernelRfl
import Derived.RowKit3
import Derived.Deep.LoopGhost
import Derived.Deep.QuietTactic
import Derived.BigQuiet
import Derived.WideLaws
import Derived.Deep.DeepCutAuto
import Derived.Deep.CutBlock
import Derived.Deep.RegionHeld3
import Derived.Laws.Rows
import Derived.Lib.AppendStr
import Derived.ArgAppend
import Derived.Laws.IdiomCopy
import Derived.OrdersHeld
import Derived.Laws.BitsLemmas
import Derived.RowKit
import Derived.Test.YtnkceaibkfbeaaaFloat
import Derived.Test.YtnkceaibkfbeaaaWWords
import Derived.Test.YtnkceaibkfbeaaaWLast
import Derived.Test.YtnkceaibkfbeaaaWTab
import Derived.Test.YtnkceaibkfbeaaaWFour
import Derived.Test.YtnkceaibkfbeaaaWQPut
import Derived.Test.YtnkceaibkfbeaaaWApart
import Derived.Test.YtnkceaibkfbeaaaWArr
import Derived.Test.YtnkceaibkfbeaaaWZeros
import Derived.Test.YtnkceaibkfbeaaaWFoot
import Derived.Test.YtnkceaibkfbeaaaWKept
import Derived.Test.YtnkceaibkfbeaaaWShare
import Derived.Test.YtnkceaibkfbeaaaWN
import Derived.Test.YtnkceaibkfbeaaaWFootNe
import Derived.Test.YtnkceaibkfbeaaaWAt
import Derived.Test.YtnkceaibkfbeaaaWEqStruct
import Derived.Test.YtnkceaibkfbeaaaWRepsOne
import Derived.Test.YtnkceaibkfbeaaaWInv
import Derived.Test.YtnkceaibkfbeaaaWInvWords
import Derived.Test.YtnkceaibkfbeaaaWGuard
import Derived.Test.YtnkceaibkfbeaaaWNEv
import Derived.Test.YtnkceaibkfbeaaaWMore
namespace Go.Proofs.Ytnkceaibkfbeaaa.E
open Go.RowKit Go.Proofs.YtnkceaibkfbeaaaW.PrintWords Go.Proofs.YtnkceaibkfbeaaaW.PrintLast Go.Proofs.YtnkceaibkfbeaaaW.PrintMore
attribute [local go_sem] max2_int min2_int max_two min_two max_three min_three max_four min_four   -- for this text's walks alone
set_option linter.unusedVariables false
set_option linter.unusedSimpArgs false
abbrev zs6 (a : Int) (b : Int) (c : Int) (d : Int) (e : Int) (f : Value) : Array Value := #[.int .i64 a, .int .i64 b, .int .i64 c, .int .i64 d, .int .i64 e, f]
abbrev za5 (a : Int) (b : ByteArray) (c : Int) (d : Int) (e : Int) : Array Value := #[.int .i64 a, .string b, .int .i64 c, .int .i64 d, .int .i64 e]
abbrev zl5 (a : ByteArray) (b : Int) (c : Int) (d : Int) (e : Bool) : Array Value := #[.string a, .int .i64 b, .int .i64 c, .int .i64 d, .bool e]
abbrev zo2 (a : Int) (b : Int) : Array Value := #[.int .i64 a, .int .i64 b]




def errW : Option Int → Value
 | none => .nilIface
 | some c => .iface 0 (.int .i64 c)
theorem errW_none : errW none = .nilIface := rfl
theorem errW_some (c : Int) : errW (some c) = .iface 0 (.int .i64 c) := rfl

theorem info5 : (Try.prog.info? 5).map (fun i => (i.zero, i.size, i.bytes)) = some (some (.int .u8 0), 1, 1) := by kernel_rfl
theorem info34 : (Try.prog.info? 34).map (fun i => (i.zero, i.size, i.bytes)) = some (some (.agg #[(.int .i64 0), (.string ⟨#[]⟩), (.int .i64 0), (.int .i64 0), (.int .i64 0)]), 5, 48) := by kernel_rfl
theorem info36 : (Try.prog.info? 36).map (fun i => (i.zero, i.size, i.bytes)) = some (some (.agg #[(.int .i64 0), (.int .i64 0)]), 2, 16) := by kernel_rfl
theorem info38 : (Try.prog.info? 38).map (fun i => (i.zero, i.size, i.bytes)) = some (some (.agg #[(.string ⟨#[]⟩), (.int .i64 0), (.int .i64 0), (.int .i64 0), (.bool false)]), 5, 48) := by kernel_rfl
-- the values' own types
/-! #### struct type 34 -/
structure S34 where
 f0 : Int
 f1 : ByteArray
 f2 : Int
 f3 : Int
 f4 : Int
def z34 : S34 := ⟨(0 : Int), (⟨#[]⟩ : ByteArray), (0 : Int), (0 : Int), (0 : Int)⟩
def k34 : Kd S34 := Kd.iso (Kd.pair (Kd.int .i64) (Kd.pair Kd.string (Kd.pair (Kd.int .i64) (Kd.pair (Kd.int .i64) (Kd.int .i64))))) (fun x : S34 => (x.f0, x.f1, x.f2, x.f3, x.f4))
theorem k34_open {w : World} {x : S34} {cs : List Value} (h : k34.K w x cs) : cs = [.int .i64 x.f0, .string x.f1, .int .i64 x.f2, .int .i64 x.f3, .int .i64 x.f4] := by
 obtain ⟨_, _, rfl, rfl, ⟨_, _, rfl, rfl, ⟨_, _, rfl, rfl, ⟨_, _, rfl, rfl, rfl⟩⟩⟩⟩ := h
 exact rfl
theorem k34_openM {w : World} {base : Nat} {ok : Nat → Prop} {x : S34} {cs : List Value} (h : k34.M w base ok x cs) : cs = [.int .i64 x.f0, .string x.f1, .int .i64 x.f2, .int .i64 x.f3, .int .i64 x.f4] := by
 obtain ⟨_, _, rfl, rfl, ⟨_, _, rfl, rfl, ⟨_, _, rfl, rfl, ⟨_, _, rfl, rfl, rfl⟩⟩⟩⟩ := h
 exact rfl
theorem k34_mk (w : World) (x : S34)  : k34.K w x [.int .i64 x.f0, .string x.f1, .int .i64 x.f2, .int .i64 x.f3, .int .i64 x.f4] := ⟨[.int .i64 x.f0], [.string x.f1, .int .i64 x.f2, .int .i64 x.f3, .int .i64 x.f4], rfl, rfl, ⟨[.string x.f1], [.int .i64 x.f2, .int .i64 x.f3, .int .i64 x.f4], rfl, rfl, ⟨[.int .i64 x.f2], [.int .i64 x.f3, .int .i64 x.f4], rfl, rfl, ⟨[.int .i64 x.f3], [.int .i64 x.f4], rfl, rfl, rfl⟩⟩⟩⟩
theorem k34_mkM (w : World) (base : Nat) (ok : Nat → Prop) (x : S34)  : k34.M w base ok x [.int .i64 x.f0, .string x.f1, .int .i64 x.f2, .int .i64 x.f3, .int .i64 x.f4] := ⟨[.int .i64 x.f0], [.string x.f1, .int .i64 x.f2, .int .i64 x.f3, .int .i64 x.f4], rfl, rfl, ⟨[.string x.f1], [.int .i64 x.f2, .int .i64 x.f3, .int .i64 x.f4], rfl, rfl, ⟨[.int .i64 x.f2], [.int .i64 x.f3, .int .i64 x.f4], rfl, rfl, ⟨[.int .i64 x.f3], [.int .i64 x.f4], rfl, rfl, rfl⟩⟩⟩⟩
theorem k34_mkF (W : World) (ok : Nat → Prop) (x : S34) : Kd.FK k34 W ok x [.int .i64 x.f0, .string x.f1, .int .i64 x.f2, .int .i64 x.f3, .int .i64 x.f4] := fun W2 _ => k34_mk W2 x
def rd_T34 (xs : List S34) (i : Int) : S34 := xs.getD i.toNat z34
theorem at_T34 {w : World} {A : Option Addr} {n : Nat} {xs : List S34} (h : Kd.C k34 w A n xs) (i : Int) (h0 : 0 ≤ i) (h1 : i < n) : ∃ ad , A = some ad ∧ w.cell? (ad.add (i.toNat * 5)) = some (.int .i64 (rd_T34 xs i).f0) ∧ w.cell? ⟨(ad.add (i.toNat * 5)).block, (ad.add (i.toNat * 5)).off + 1, none⟩ = some (.string (rd_T34 xs i).f1) ∧ w.cell? ⟨(ad.add (i.toNat * 5)).block, (ad.add (i.toNat * 5)).off + 2, none⟩ = some (.int .i64 (rd_T34 xs i).f2) ∧ w.cell? ⟨(ad.add (i.toNat * 5)).block, (ad.add (i.toNat * 5)).off + 3, none⟩ = some (.int .i64 (rd_T34 xs i).f3) ∧ w.cell? ⟨(ad.add (i.toNat * 5)).block, (ad.add (i.toNat * 5)).off + 4, none⟩ = some (.int .i64 (rd_T34 xs i).f4) := by
 obtain ⟨ad, c, e, _, hK, hc0⟩ := Kd.C_get h z34 i h0 h1
 have hc : ∀ j u, c[j]? = some u → w.cell? (ad.add (i.toNat * 5 + j)) = some u := hc0
 obtain rfl := k34_open hK
 exact ⟨ad, e, hc 0 _ rfl, by rw [← add_field _ _ 1 (by omega)]; exact hc 1 _ rfl, by rw [← add_field _ _ 2 (by omega)]; exact hc 2 _ rfl, by rw [← add_field _ _ 3 (by omega)]; exact hc 3 _ rfl, by rw [← add_field _ _ 4 (by omega)]; exact hc 4 _ rfl⟩

/-! #### struct type 38 -/
structure S38 where
 f0 : ByteArray
 f1 : Int
 f2 : Int
 f3 : Int
 f4 : Bool
def z38 : S38 := ⟨(⟨#[]⟩ : ByteArray), (0 : Int), (0 : Int), (0 : Int), false⟩
def k38 : Kd S38 := Kd.iso (Kd.pair Kd.string (Kd.pair (Kd.int .i64) (Kd.pair (Kd.int .i64) (Kd.pair (Kd.int .i64) Kd.bool)))) (fun x : S38 => (x.f0, x.f1, x.f2, x.f3, x.f4))
theorem k38_open {w : World} {x : S38} {cs : List Value} (h : k38.K w x cs) : cs = [.string x.f0, .int .i64 x.f1, .int .i64 x.f2, .int .i64 x.f3, .bool x.f4] := by
 obtain ⟨_, _, rfl, rfl, ⟨_, _, rfl, rfl, ⟨_, _, rfl, rfl, ⟨_, _, rfl, rfl, rfl⟩⟩⟩⟩ := h
 exact rfl
theorem k38_openM {w : World} {base : Nat} {ok : Nat → Prop} {x : S38} {cs : List Value} (h : k38.M w base ok x cs) : cs = [.string x.f0, .int .i64 x.f1, .int .i64 x.f2, .int .i64 x.f3, .bool x.f4] := by
 obtain ⟨_, _, rfl, rfl, ⟨_, _, rfl, rfl, ⟨_, _, rfl, rfl, ⟨_, _, rfl, rfl, rfl⟩⟩⟩⟩ := h
 exact rfl
theorem k38_mk (w : World) (x : S38)  : k38.K w x [.string x.f0, .int .i64 x.f1, .int .i64 x.f2, .int .i64 x.f3, .bool x.f4] := ⟨[.string x.f0], [.int .i64 x.f1, .int .i64 x.f2, .int .i64 x.f3, .bool x.f4], rfl, rfl, ⟨[.int .i64 x.f1], [.int .i64 x.f2, .int .i64 x.f3, .bool x.f4], rfl, rfl, ⟨[.int .i64 x.f2], [.int .i64 x.f3, .bool x.f4], rfl, rfl, ⟨[.int .i64 x.f3], [.bool x.f4], rfl, rfl, rfl⟩⟩⟩⟩
theorem k38_mkM (w : World) (base : Nat) (ok : Nat → Prop) (x : S38)  : k38.M w base ok x [.string x.f0, .int .i64 x.f1, .int .i64 x.f2, .int .i64 x.f3, .bool x.f4] := ⟨[.string x.f0], [.int .i64 x.f1, .int .i64 x.f2, .int .i64 x.f3, .bool x.f4], rfl, rfl, ⟨[.int .i64 x.f1], [.int .i64 x.f2, .int .i64 x.f3, .bool x.f4], rfl, rfl, ⟨[.int .i64 x.f2], [.int .i64 x.f3, .bool x.f4], rfl, rfl, ⟨[.int .i64 x.f3], [.bool x.f4], rfl, rfl, rfl⟩⟩⟩⟩
theorem k38_mkF (W : World) (ok : Nat → Prop) (x : S38) : Kd.FK k38 W ok x [.string x.f0, .int .i64 x.f1, .int .i64 x.f2, .int .i64 x.f3, .bool x.f4] := fun W2 _ => k38_mk W2 x
def rd_T38 (xs : List S38) (i : Int) : S38 := xs.getD i.toNat z38
theorem at_T38 {w : World} {A : Option Addr} {n : Nat} {xs : List S38} (h : Kd.C k38 w A n xs) (i : Int) (h0 : 0 ≤ i) (h1 : i < n) : ∃ ad , A = some ad ∧ w.cell? (ad.add (i.toNat * 5)) = some (.string (rd_T38 xs i).f0) ∧ w.cell? ⟨(ad.add (i.toNat * 5)).block, (ad.add (i.toNat * 5)).off + 1, none⟩ = some (.int .i64 (rd_T38 xs i).f1) ∧ w.cell? ⟨(ad.add (i.toNat * 5)).block, (ad.add (i.toNat * 5)).off + 2, none⟩ = some (.int .i64 (rd_T38 xs i).f2) ∧ w.cell? ⟨(ad.add (i.toNat * 5)).block, (ad.add (i.toNat * 5)).off + 3, none⟩ = some (.int .i64 (rd_T38 xs i).f3) ∧ w.cell? ⟨(ad.add (i.toNat * 5)).block, (ad.add (i.toNat * 5)).off + 4, none⟩ = some (.bool (rd_T38 xs i).f4) := by
 obtain ⟨ad, c, e, _, hK, hc0⟩ := Kd.C_get h z38 i h0 h1
 have hc : ∀ j u, c[j]? = some u → w.cell? (ad.add (i.toNat * 5 + j)) = some u := hc0
 obtain rfl := k38_open hK
 exact ⟨ad, e, hc 0 _ rfl, by rw [← add_field _ _ 1 (by omega)]; exact hc 1 _ rfl, by rw [← add_field _ _ 2 (by omega)]; exact hc 2 _ rfl, by rw [← add_field _ _ 3 (by omega)]; exact hc 3 _ rfl, by rw [← add_field _ _ 4 (by omega)]; exact hc 4 _ rfl⟩

/-! #### struct type 36 -/
structure S36 where
 f0 : Int
 f1 : Int
def z36 : S36 := ⟨(0 : Int), (0 : Int)⟩
def k36 : Kd S36 := Kd.iso (Kd.pair (Kd.int .i64) (Kd.int .i64)) (fun x : S36 => (x.f0, x.f1))
theorem k36_open {w : World} {x : S36} {cs : List Value} (h : k36.K w x cs) : cs = [.int .i64 x.f0, .int .i64 x.f1] := by
 obtain ⟨_, _, rfl, rfl, rfl⟩ := h
 exact rfl
theorem k36_openM {w : World} {base : Nat} {ok : Nat → Prop} {x : S36} {cs : List Value} (h : k36.M w base ok x cs) : cs = [.int .i64 x.f0, .int .i64 x.f1] := by
 obtain ⟨_, _, rfl, rfl, rfl⟩ := h
 exact rfl
theorem k36_mk (w : World) (x : S36)  : k36.K w x [.int .i64 x.f0, .int .i64 x.f1] := ⟨[.int .i64 x.f0], [.int .i64 x.f1], rfl, rfl, rfl⟩
theorem k36_mkM (w : World) (base : Nat) (ok : Nat → Prop) (x : S36)  : k36.M w base ok x [.int .i64 x.f0, .int .i64 x.f1] := ⟨[.int .i64 x.f0], [.int .i64 x.f1], rfl, rfl, rfl⟩
theorem k36_mkF (W : World) (ok : Nat → Prop) (x : S36) : Kd.FK k36 W ok x [.int .i64 x.f0, .int .i64 x.f1] := fun W2 _ => k36_mk W2 x
def rd_T36 (xs : List S36) (i : Int) : S36 := xs.getD i.toNat z36
theorem at_T36 {w : World} {A : Option Addr} {n : Nat} {xs : List S36} (h : Kd.C k36 w A n xs) (i : Int) (h0 : 0 ≤ i) (h1 : i < n) : ∃ ad , A = some ad ∧ w.cell? (ad.add (i.toNat * 2)) = some (.int .i64 (rd_T36 xs i).f0) ∧ w.cell? ⟨(ad.add (i.toNat * 2)).block, (ad.add (i.toNat * 2)).off + 1, none⟩ = some (.int .i64 (rd_T36 xs i).f1) := by
 obtain ⟨ad, c, e, _, hK, hc0⟩ := Kd.C_get h z36 i h0 h1
 have hc : ∀ j u, c[j]? = some u → w.cell? (ad.add (i.toNat * 2 + j)) = some u := hc0
 obtain rfl := k36_open hK
 exact ⟨ad, e, hc 0 _ rfl, by rw [← add_field _ _ 1 (by omega)]; exact hc 1 _ rfl⟩

/-! #### struct type 57 -/
structure S57 where
 f0 : Int
 f1 : ByteArray
 f2 : Int
 f3 : Int
 f4 : Int
def z57 : S57 := ⟨(0 : Int), (⟨#[]⟩ : ByteArray), (0 : Int), (0 : Int), (0 : Int)⟩
def k57 : Kd S57 := Kd.iso (Kd.pair (Kd.int .i64) (Kd.pair Kd.string (Kd.pair (Kd.int .i64) (Kd.pair (Kd.int .i64) (Kd.int .i64))))) (fun x : S57 => (x.f0, x.f1, x.f2, x.f3, x.f4))
theorem k57_open {w : World} {x : S57} {cs : List Value} (h : k57.K w x cs) : cs = [.int .i64 x.f0, .string x.f1, .int .i64 x.f2, .int .i64 x.f3, .int .i64 x.f4] := by
 obtain ⟨_, _, rfl, rfl, ⟨_, _, rfl, rfl, ⟨_, _, rfl, rfl, ⟨_, _, rfl, rfl, rfl⟩⟩⟩⟩ := h
 exact rfl
theorem k57_openM {w : World} {base : Nat} {ok : Nat → Prop} {x : S57} {cs : List Value} (h : k57.M w base ok x cs) : cs = [.int .i64 x.f0, .string x.f1, .int .i64 x.f2, .int .i64 x.f3, .int .i64 x.f4] := by
 obtain ⟨_, _, rfl, rfl, ⟨_, _, rfl, rfl, ⟨_, _, rfl, rfl, ⟨_, _, rfl, rfl, rfl⟩⟩⟩⟩ := h
 exact rfl
theorem k57_mk (w : World) (x : S57)  : k57.K w x [.int .i64 x.f0, .string x.f1, .int .i64 x.f2, .int .i64 x.f3, .int .i64 x.f4] := ⟨[.int .i64 x.f0], [.string x.f1, .int .i64 x.f2, .int .i64 x.f3, .int .i64 x.f4], rfl, rfl, ⟨[.string x.f1], [.int .i64 x.f2, .int .i64 x.f3, .int .i64 x.f4], rfl, rfl, ⟨[.int .i64 x.f2], [.int .i64 x.f3, .int .i64 x.f4], rfl, rfl, ⟨[.int .i64 x.f3], [.int .i64 x.f4], rfl, rfl, rfl⟩⟩⟩⟩
theorem k57_mkM (w : World) (base : Nat) (ok : Nat → Prop) (x : S57)  : k57.M w base ok x [.int .i64 x.f0, .string x.f1, .int .i64 x.f2, .int .i64 x.f3, .int .i64 x.f4] := ⟨[.int .i64 x.f0], [.string x.f1, .int .i64 x.f2, .int .i64 x.f3, .int .i64 x.f4], rfl, rfl, ⟨[.string x.f1], [.int .i64 x.f2, .int .i64 x.f3, .int .i64 x.f4], rfl, rfl, ⟨[.int .i64 x.f2], [.int .i64 x.f3, .int .i64 x.f4], rfl, rfl, ⟨[.int .i64 x.f3], [.int .i64 x.f4], rfl, rfl, rfl⟩⟩⟩⟩
theorem k57_mkF (W : World) (ok : Nat → Prop) (x : S57) : Kd.FK k57 W ok x [.int .i64 x.f0, .string x.f1, .int .i64 x.f2, .int .i64 x.f3, .int .i64 x.f4] := fun W2 _ => k57_mk W2 x
def rd_T57 (xs : List S57) (i : Int) : S57 := xs.getD i.toNat z57
theorem at_T57 {w : World} {A : Option Addr} {n : Nat} {xs : List S57} (h : Kd.C k57 w A n xs) (i : Int) (h0 : 0 ≤ i) (h1 : i < n) : ∃ ad , A = some ad ∧ w.cell? (ad.add (i.toNat * 5)) = some (.int .i64 (rd_T57 xs i).f0) ∧ w.cell? ⟨(ad.add (i.toNat * 5)).block, (ad.add (i.toNat * 5)).off + 1, none⟩ = some (.string (rd_T57 xs i).f1) ∧ w.cell? ⟨(ad.add (i.toNat * 5)).block, (ad.add (i.toNat * 5)).off + 2, none⟩ = some (.int .i64 (rd_T57 xs i).f2) ∧ w.cell? ⟨(ad.add (i.toNat * 5)).block, (ad.add (i.toNat * 5)).off + 3, none⟩ = some (.int .i64 (rd_T57 xs i).f3) ∧ w.cell? ⟨(ad.add (i.toNat * 5)).block, (ad.add (i.toNat * 5)).off + 4, none⟩ = some (.int .i64 (rd_T57 xs i).f4) := by
 obtain ⟨ad, c, e, _, hK, hc0⟩ := Kd.C_get h z57 i h0 h1
 have hc : ∀ j u, c[j]? = some u → w.cell? (ad.add (i.toNat * 5 + j)) = some u := hc0
 obtain rfl := k57_open hK
 exact ⟨ad, e, hc 0 _ rfl, by rw [← add_field _ _ 1 (by omega)]; exact hc 1 _ rfl, by rw [← add_field _ _ 2 (by omega)]; exact hc 2 _ rfl, by rw [← add_field _ _ 3 (by omega)]; exact hc 3 _ rfl, by rw [← add_field _ _ 4 (by omega)]; exact hc 4 _ rfl⟩

def rd_L8 (xs : List (List S57)) (i : Int) : (List S57) := xs.getD i.toNat ([] : List S57)
theorem at_L8 {w : World} {A : Option Addr} {n : Nat} {xs : List (List S57)} (h : Kd.C (Kd.slice 57 k57) w A n xs) (i : Int) (h0 : 0 ≤ i) (h1 : i < n) : ∃ ad A0 c0, A = some ad ∧ w.cell? (ad.add i.toNat) = some (.slice A0 (rd_L8 xs i).length c0) ∧ (rd_L8 xs i).length ≤ c0 ∧ k57.C w A0 (rd_L8 xs i).length (rd_L8 xs i) := by
 obtain ⟨ad, c, e, _, hK, hc0⟩ := Kd.C_get h ([] : List S57) i h0 h1
 have hc : ∀ j u, c[j]? = some u → w.cell? (ad.add (i.toNat * 1 + j)) = some u := hc0
 obtain ⟨A0, c0, rfl, l0, g0⟩ := hK
 exact ⟨ad, A0, c0, e, by have hq := hc 0 _ rfl; rwa [Nat.mul_one, Nat.add_zero] at hq, l0, g0⟩

-- aliases
theorem zO {p : Prop} [Decidable p] (h : decide p = true := by first | (with_reducible assumption) | assumption) : p := of_decide_eq_true h
abbrev za := @Aside0.mk
abbrev zb := @World.block_lt_of_cell?
abbrev zc := @blk_frozen
abbrev zd := @pw_below_drewN
abbrev ze := @blk_alloc
abbrev zf := @blk_drewN
abbrev zg := @blk_drew
abbrev zh := @below_drew1
abbrev zi := @below_alloc
abbrev zj := @below_set
abbrev zk := @Kd.R_alloc
abbrev zl := @Kd.R_drewN
abbrev zm := @Kd.R_far
abbrev zn := @Kd.R_drew
abbrev zo := @Kd.R_below
abbrev zp := @below_size
abbrev zq := @blk_below
abbrev zr := @below_step
abbrev zs := @Kd.R_mono
abbrev zt := @blk_far
abbrev zu := @blk_put
abbrev zv := @blk_lt
abbrev zw := @Kd.R_types
abbrev zx := @Kd.R_slice
abbrev zy := @Kd.C_alloc
abbrev zz := @Kd.C_drewN
abbrev zaa := @Kd.C_drew
abbrev zab := @blk_kept
abbrev zac := @Kd.R_keptB
abbrev zad := @Kd.R_ne
abbrev zae := @Kd.R_apart'
abbrev zaf := @Kd.R_typed
abbrev zag := @Kd.R_elem
abbrev zah := @Kept.of_grown
abbrev zai := @Kd.R_lower
abbrev zaj := @Kd.R_tight
abbrev zak := @Kd.C_below
abbrev zal := @Kd.R_seg
abbrev zam := @Kd.R_form
abbrev zan := @Kd.R_elder'
abbrev zao := @blk_grown
abbrev zap := @Kd.R_reok
abbrev zaq := @Kd.R_base
abbrev zar := @Kd.R_new'
abbrev zas := @Kd.R_lt
abbrev zat := @Kd.R_nil
abbrev zau := @Kd.N_nil
abbrev zav := @Kd.V_nil
abbrev zaw := @Kd.Q_nil
abbrev zax := @Kd.S_nil
abbrev zay := @Kd.R_bound
theorem zG51 {p : Prop} (h : p := by first | (simp only [putAll, Act.put, List.setIfInBounds_toArray, List.set_cons_zero, List.set_cons_succ]; done) | (simp only [putAll, Act.put, List.setIfInBounds_toArray, List.set_cons_zero, List.set_cons_succ]; rfl)) : p := h
theorem zG52 {p : Prop} (h : p := by repeat (first | (with_reducible first | exact HB.out | apply zi | apply zd | apply zh | refine zj ?_ GE262.out | refine zj ?_ GE269.out) | exact HB.out)) : p := h
theorem zG53 {p : Prop} (h : p := by repeat (first | (with_reducible first | exact HB.out | apply zi | apply zd | apply zh | refine zj ?_ GE366.out | refine zj ?_ GE382.out) | exact HB.out)) : p := h
theorem zG54 {p : Prop} (h : p := by (try simp only [List.map_toArray, List.map_cons, List.map_nil]); first | done | rfl | (simp only [List.length_drop, List.length_take]; rfl)) : p := h
theorem zG55 {p : Prop} (h : p := by repeat (first | (with_reducible first | exact HB.out | apply zi | apply zd | apply zh | refine zj ?_ GE307.out) | exact HB.out)) : p := h
theorem zG56 {p : Prop} (h : p := by repeat (first | (with_reducible first | exact HB.out | apply zi | apply zd | apply zh | refine zj ?_ GE176.out) | exact HB.out)) : p := h
theorem zG57 {p : Prop} (h : p := by repeat (first | (with_reducible first | exact HB.out | apply zi | apply zd | apply zh | refine zj ?_ GE312.out) | exact HB.out)) : p := h
theorem zG58 {p : Prop} (h : p := by repeat (first | (with_reducible first | exact HB.out | apply zi | apply zd | apply zh | refine zj ?_ GE315.out) | exact HB.out)) : p := h
theorem zG59 {p : Prop} (h : p := by repeat (first | (with_reducible first | exact HK.out | apply Kept.alloc | apply Kept.drewN | apply Kept.drew) | exact HK.out)) : p := h
theorem zG60 {p : Prop} (h : p := by repeat (first | (with_reducible first | exact HB.out | apply zi | apply zd | apply zh) | exact HB.out)) : p := h
theorem zG61 {p : Prop} (h : p := by (with_reducible repeat (first | refine zf ?_ _ | refine zg ?_ | refine ze ?_ _)); exact BK307.out) : p := h
theorem zG62 {p : Prop} (h : p := by (with_reducible repeat (first | refine zf ?_ _ | refine zg ?_ | refine ze ?_ _)); exact BK176.out) : p := h
theorem zG63 {p : Prop} (h : p := by (with_reducible repeat (first | refine zf ?_ _ | refine zg ?_ | refine ze ?_ _)); exact BK312.out) : p := h
theorem zG64 {p : Prop} (h : p := by (with_reducible repeat (first | refine zf ?_ _ | refine zg ?_ | refine ze ?_ _)); exact BK315.out) : p := h
theorem zG65 {p : Prop} (h : p := by (with_reducible repeat (first | refine zf ?_ _ | refine zg ?_ | refine ze ?_ _)); exact BK262.out) : p := h
theorem zG66 {p : Prop} (h : p := by (with_reducible repeat (first | refine zf ?_ _ | refine zg ?_ | refine ze ?_ _)); exact BK269.out) : p := h
theorem zG67 {p : Prop} (h : p := by (with_reducible repeat (first | refine zf ?_ _ | refine zg ?_ | refine ze ?_ _)); exact BK284.out) : p := h
theorem zG68 {p : Prop} (h : p := by (with_reducible repeat (first | refine zf ?_ _ | refine zg ?_ | refine ze ?_ _)); exact BK285.out) : p := h
theorem zG69 {p : Prop} (h : p := by (with_reducible repeat (first | refine zf ?_ _ | refine zg ?_ | refine ze ?_ _)); exact BK366.out) : p := h
theorem zG70 {p : Prop} (h : p := by (with_reducible repeat (first | refine zf ?_ _ | refine zg ?_ | refine ze ?_ _)); exact BK382.out) : p := h
theorem zG71 {p : Prop} (h : p := by (with_reducible repeat (first | refine zf ?_ _ | refine zg ?_ | refine ze ?_ _)); exact BK0.out) : p := h
theorem zG72 {p : Prop} (h : p := by (with_reducible repeat (first | apply zk | apply zl | apply zn)); exact HO_367005.out) : p := h
theorem zG73 {p : Prop} (h : p := by (with_reducible repeat (first | apply zk | apply zl | apply zn)); exact HO_383005.out) : p := h
theorem zG74 {p : Prop} (h : p := by (with_reducible repeat (first | apply zk | apply zl | apply zn)); exact HO_6.out) : p := h
theorem zG75 {p : Prop} (h : p := by (with_reducible repeat (first | apply zk | apply zl | apply zn)); exact HO_4.out) : p := h
theorem zG76 {p : Prop} (h : p := by (with_reducible repeat (first | apply zk | apply zl | apply zn)); exact HO_8.out) : p := h
theorem zG77 {p : Prop} (h : p := by have := zb _ _ hw273_0; first | rwa [add_block] at this | exact this) : p := h
theorem zG78 {p : Prop} (h : p := by have := zb _ _ hw273_1; first | rwa [add_block] at this | exact this) : p := h
theorem zG79 {p : Prop} (h : p := by have := zb _ _ hw273_2; first | rwa [add_block] at this | exact this) : p := h
theorem zG80 {p : Prop} (h : p := by have := zb _ _ hw273_3; first | rwa [add_block] at this | exact this) : p := h
theorem zG81 {p : Prop} (h : p := by have := zb _ _ hw273_4; first | rwa [add_block] at this | exact this) : p := h
theorem zG82 {p : Prop} (h : p := by first | rfl | (simp; done) | (simp [*]; done)) : p := h
theorem zG83 {p : Prop} (h : p := by kernel_rfl) : p := h
theorem zG84 {p : Prop} (h : p := by decide) : p := h
-- pressed
abbrev zA_ := @And.intro
-- pressed twice
theorem zAi {a b c : Prop} (h : a → b → c) : a ∧ b → c := fun x => h x.1 x.2
theorem zP {P : Program} {ops : Array Oper} {Q : Exit → Act → World → Prop} {md : Region.Mode} {S : World → Prop} {ds : List Nat} {T : Bool × List (List Nat × List Nat)} {oi : Oper} {v : Value} {fuel : Nat} {l : Array Bool} {a a' : Act} {w : World} (i : Nat) (N : Tmp) (l' : Array Bool) (hT : Aside0 (rtab md ops = T)) (h : wpAnyLast P md ops Q S ds fuel l' a' w) (hi : ops[i]? = some oi := by rfl) (hN : oi.dst = some N := by rfl) (hc : anyT T l.toList l'.toList i = true := by kernel_rfl) (hQ : ∀ c a w, Q (.panic c) (a.put oi.dst v) w → Q (.panic c) a w := by exact fun _ _ _ h => h) (hw : Region.wanted oi (yielded ops a.tmps) = true := by rfl) (hy : ∀ w, (execOp a.eval oi).run P w = .ok (.value v) w := by intro w'; go_simp; with_reducible rfl) (ha : a.put (some N) v = a' := by simp only [Act.put, List.setIfInBounds_toArray, List.set_cons_zero, List.set_cons_succ, i64_w, i32_w]; rfl) : wpAnyLast P md ops Q S ds (fuel + 1) l a w := pure_ l' hi hN (any_of hT.out hc) hQ (Or.inl ⟨hw, hy⟩) ha h
theorem zQ {P : Program} {ops : Array Oper} {Q : Exit → Act → World → Prop} {md : Region.Mode} {S : World → Prop} {ds : List Nat} {T : Bool × List (List Nat × List Nat)} {oi : Oper} {v : Value} {fuel : Nat} {l : Array Bool} {a a' : Act} {w : World} {B : List Nat} (i : Nat) (N : Tmp) (l' : Array Bool) (hT : Aside0 (rtab md ops = T)) (hW : Aside0 (waitsOk T.2 B = true)) (hS : S w) (h : wpAnyLast P md ops Q S ds fuel l' a' w) (hi : ops[i]? = some oi := by rfl) (hN : oi.dst = some N := by rfl) (hc : takeW T B ds l.toList l'.toList i = true := by kernel_rfl) (hQ : ∀ c a w, Q (.panic c) (a.put oi.dst v) w → Q (.panic c) a w := by exact fun _ _ _ h => h) (hw : Region.wanted oi (yielded ops a.tmps) = true := by rfl) (hy : ∀ w, S w → (execOp a.eval oi).run P w = .ok (.value v) w := by intro w'; (repeat (refine zAi ?_; intro _)); intro _; go_simp; with_reducible rfl) (ha : a.put (some N) v = a' := by simp only [Act.put, List.setIfInBounds_toArray, List.set_cons_zero, List.set_cons_succ, i64_w, i32_w]; rfl) : wpAnyLast P md ops Q S ds (fuel + 1) l a w := take_ l' hi hN (take_ofW hT.out hW.out hc) hQ (Or.inl ⟨hw, hy⟩) hS ha h
theorem zU {P : Program} {ops : Array Oper} {Q : Exit → Act → World → Prop} {md : Region.Mode} {S : World → Prop} {ds : List Nat} {T : Bool × List (List Nat × List Nat)} {oi : Oper} {fuel : Nat} {l : Array Bool} {a a' : Act} {w : World} (i : Nat) (N : Tmp) (l' : Array Bool) (hT : Aside0 (rtab md ops = T)) (h : wpAnyLast P md ops Q S ds fuel l' a' w) (hi : ops[i]? = some oi := by rfl) (hN : oi.dst = some N := by rfl) (hc : anyT T l.toList l'.toList i = true := by kernel_rfl) (hQ : ∀ c a w, Q (.panic c) (a.put oi.dst undef) w → Q (.panic c) a w := by exact fun _ _ _ h => h) (hw : Region.wanted oi (yielded ops a.tmps) = false := by rfl) (ha : a.put (some N) undef = a' := by simp only [Act.put, List.setIfInBounds_toArray, List.set_cons_zero, List.set_cons_succ, i64_w, i32_w]; rfl) : wpAnyLast P md ops Q S ds (fuel + 1) l a w := pure_ l' hi hN (any_of hT.out hc) hQ (Or.inr ⟨hw, rfl⟩) ha h
def zM (n m : Nat) : Array Bool := ⟨(List.range n).map (fun i => Nat.testBit m i)⟩
theorem zB2 {w : World} {g : Nat} {t : TypeId} {v0 v1 : Value} (h : w.heap[g]? = some (.cells #[v0, v1] t (0, 0))) : w.cell? ⟨g, 0, none⟩ = some v0 ∧ w.cell? ⟨g, 1, none⟩ = some v1 ∧ w.frozen? ⟨g, 0, none⟩ = false ∧ w.frozen? ⟨g, 1, none⟩ = false := ⟨(blk_cell h 0).trans rfl, (blk_cell h 1).trans rfl, blk_frozen h 0, blk_frozen h 1⟩
theorem zB5 {w : World} {g : Nat} {t : TypeId} {v0 v1 v2 v3 v4 : Value} (h : w.heap[g]? = some (.cells #[v0, v1, v2, v3, v4] t (0, 0))) : w.cell? ⟨g, 0, none⟩ = some v0 ∧ w.cell? ⟨g, 1, none⟩ = some v1 ∧ w.cell? ⟨g, 2, none⟩ = some v2 ∧ w.cell? ⟨g, 3, none⟩ = some v3 ∧ w.cell? ⟨g, 4, none⟩ = some v4 ∧ w.frozen? ⟨g, 0, none⟩ = false ∧ w.frozen? ⟨g, 1, none⟩ = false ∧ w.frozen? ⟨g, 2, none⟩ = false ∧ w.frozen? ⟨g, 3, none⟩ = false ∧ w.frozen? ⟨g, 4, none⟩ = false := ⟨(blk_cell h 0).trans rfl, (blk_cell h 1).trans rfl, (blk_cell h 2).trans rfl, (blk_cell h 3).trans rfl, (blk_cell h 4).trans rfl, blk_frozen h 0, blk_frozen h 1, blk_frozen h 2, blk_frozen h 3, blk_frozen h 4⟩
theorem zB6 {w : World} {g : Nat} {t : TypeId} {v0 v1 v2 v3 v4 v5 : Value} (h : w.heap[g]? = some (.cells #[v0, v1, v2, v3, v4, v5] t (0, 0))) : w.cell? ⟨g, 0, none⟩ = some v0 ∧ w.cell? ⟨g, 1, none⟩ = some v1 ∧ w.cell? ⟨g, 2, none⟩ = some v2 ∧ w.cell? ⟨g, 3, none⟩ = some v3 ∧ w.cell? ⟨g, 4, none⟩ = some v4 ∧ w.cell? ⟨g, 5, none⟩ = some v5 ∧ w.frozen? ⟨g, 0, none⟩ = false ∧ w.frozen? ⟨g, 1, none⟩ = false ∧ w.frozen? ⟨g, 2, none⟩ = false ∧ w.frozen? ⟨g, 3, none⟩ = false ∧ w.frozen? ⟨g, 4, none⟩ = false ∧ w.frozen? ⟨g, 5, none⟩ = false := ⟨(blk_cell h 0).trans rfl, (blk_cell h 1).trans rfl, (blk_cell h 2).trans rfl, (blk_cell h 3).trans rfl, (blk_cell h 4).trans rfl, (blk_cell h 5).trans rfl, blk_frozen h 0, blk_frozen h 1, blk_frozen h 2, blk_frozen h 3, blk_frozen h 4, blk_frozen h 5⟩
theorem zN1 (p : Nat) {b s : Nat} (hg : b = s) (h : p ≤ s) : Aside0 (p ≤ b) := ⟨hg ▸ h⟩
theorem zN2 {a b s : Nat} (hg : b = s) (h : a < s) : Aside0 (a ≠ b) ∧ Aside0 (b ≠ a) := ⟨⟨by subst hg; exact Nat.ne_of_lt h⟩, ⟨by subst hg; exact Nat.ne_of_gt h⟩⟩
theorem zN3 {a b s : Nat} {c : Prop} (hg : b = s) (h : a < s) (r : c) : Aside0 (a ≠ b) ∧ Aside0 (b ≠ a) ∧ c := ⟨(zN2 hg h).1, (zN2 hg h).2, r⟩
theorem zD2 {p0 p1 : Prop} (h0 : p0) (h1 : p1) : Aside0 p0 ∧ Aside0 p1 := ⟨⟨h0⟩, ⟨h1⟩⟩
theorem zD3 {p0 p1 p2 : Prop} (h0 : p0) (h1 : p1) (h2 : p2) : Aside0 p0 ∧ Aside0 p1 ∧ Aside0 p2 := ⟨⟨h0⟩, ⟨h1⟩, ⟨h2⟩⟩
theorem zD4 {p0 p1 p2 p3 : Prop} (h0 : p0) (h1 : p1) (h2 : p2) (h3 : p3) : Aside0 p0 ∧ Aside0 p1 ∧ Aside0 p2 ∧ Aside0 p3 := ⟨⟨h0⟩, ⟨h1⟩, ⟨h2⟩, ⟨h3⟩⟩
theorem zD5 {p0 p1 p2 p3 p4 : Prop} (h0 : p0) (h1 : p1) (h2 : p2) (h3 : p3) (h4 : p4) : Aside0 p0 ∧ Aside0 p1 ∧ Aside0 p2 ∧ Aside0 p3 ∧ Aside0 p4 := ⟨⟨h0⟩, ⟨h1⟩, ⟨h2⟩, ⟨h3⟩, ⟨h4⟩⟩
theorem zD6 {p0 p1 p2 p3 p4 p5 : Prop} (h0 : p0) (h1 : p1) (h2 : p2) (h3 : p3) (h4 : p4) (h5 : p5) : Aside0 p0 ∧ Aside0 p1 ∧ Aside0 p2 ∧ Aside0 p3 ∧ Aside0 p4 ∧ Aside0 p5 := ⟨⟨h0⟩, ⟨h1⟩, ⟨h2⟩, ⟨h3⟩, ⟨h4⟩, ⟨h5⟩⟩
theorem zD7 {p0 p1 p2 p3 p4 p5 p6 : Prop} (h0 : p0) (h1 : p1) (h2 : p2) (h3 : p3) (h4 : p4) (h5 : p5) (h6 : p6) : Aside0 p0 ∧ Aside0 p1 ∧ Aside0 p2 ∧ Aside0 p3 ∧ Aside0 p4 ∧ Aside0 p5 ∧ Aside0 p6 := ⟨⟨h0⟩, ⟨h1⟩, ⟨h2⟩, ⟨h3⟩, ⟨h4⟩, ⟨h5⟩, ⟨h6⟩⟩
theorem zD8 {p0 p1 p2 p3 p4 p5 p6 p7 : Prop} (h0 : p0) (h1 : p1) (h2 : p2) (h3 : p3) (h4 : p4) (h5 : p5) (h6 : p6) (h7 : p7) : Aside0 p0 ∧ Aside0 p1 ∧ Aside0 p2 ∧ Aside0 p3 ∧ Aside0 p4 ∧ Aside0 p5 ∧ Aside0 p6 ∧ Aside0 p7 := ⟨⟨h0⟩, ⟨h1⟩, ⟨h2⟩, ⟨h3⟩, ⟨h4⟩, ⟨h5⟩, ⟨h6⟩, ⟨h7⟩⟩
theorem zD9 {p0 p1 p2 p3 p4 p5 p6 p7 p8 : Prop} (h0 : p0) (h1 : p1) (h2 : p2) (h3 : p3) (h4 : p4) (h5 : p5) (h6 : p6) (h7 : p7) (h8 : p8) : Aside0 p0 ∧ Aside0 p1 ∧ Aside0 p2 ∧ Aside0 p3 ∧ Aside0 p4 ∧ Aside0 p5 ∧ Aside0 p6 ∧ Aside0 p7 ∧ Aside0 p8 := ⟨⟨h0⟩, ⟨h1⟩, ⟨h2⟩, ⟨h3⟩, ⟨h4⟩, ⟨h5⟩, ⟨h6⟩, ⟨h7⟩, ⟨h8⟩⟩
theorem zD12 {p0 p1 p2 p3 p4 p5 p6 p7 p8 p9 p10 p11 : Prop} (h0 : p0) (h1 : p1) (h2 : p2) (h3 : p3) (h4 : p4) (h5 : p5) (h6 : p6) (h7 : p7) (h8 : p8) (h9 : p9) (h10 : p10) (h11 : p11) : Aside0 p0 ∧ Aside0 p1 ∧ Aside0 p2 ∧ Aside0 p3 ∧ Aside0 p4 ∧ Aside0 p5 ∧ Aside0 p6 ∧ Aside0 p7 ∧ Aside0 p8 ∧ Aside0 p9 ∧ Aside0 p10 ∧ Aside0 p11 := ⟨⟨h0⟩, ⟨h1⟩, ⟨h2⟩, ⟨h3⟩, ⟨h4⟩, ⟨h5⟩, ⟨h6⟩, ⟨h7⟩, ⟨h8⟩, ⟨h9⟩, ⟨h10⟩, ⟨h11⟩⟩
theorem zD15 {p0 p1 p2 p3 p4 p5 p6 p7 p8 p9 p10 p11 p12 p13 p14 : Prop} (h0 : p0) (h1 : p1) (h2 : p2) (h3 : p3) (h4 : p4) (h5 : p5) (h6 : p6) (h7 : p7) (h8 : p8) (h9 : p9) (h10 : p10) (h11 : p11) (h12 : p12) (h13 : p13) (h14 : p14) : Aside0 p0 ∧ Aside0 p1 ∧ Aside0 p2 ∧ Aside0 p3 ∧ Aside0 p4 ∧ Aside0 p5 ∧ Aside0 p6 ∧ Aside0 p7 ∧ Aside0 p8 ∧ Aside0 p9 ∧ Aside0 p10 ∧ Aside0 p11 ∧ Aside0 p12 ∧ Aside0 p13 ∧ Aside0 p14 := ⟨⟨h0⟩, ⟨h1⟩, ⟨h2⟩, ⟨h3⟩, ⟨h4⟩, ⟨h5⟩, ⟨h6⟩, ⟨h7⟩, ⟨h8⟩, ⟨h9⟩, ⟨h10⟩, ⟨h11⟩, ⟨h12⟩, ⟨h13⟩, ⟨h14⟩⟩
theorem zH0 {p : Prop} (h : p := by (with_reducible repeat (first | refine zf ?_ _ | refine zg ?_ | refine ze ?_ _)); refine zt ?_ NB176_178.out _; (with_reducible repeat (first | refine zf ?_ _ | refine zg ?_ | refine ze ?_ _)); refine zt ?_ NB176_178.out _; (with_reducible repeat (first | refine zf ?_ _ | refine zg ?_ | refine ze ?_ _)); refine zt ?_ NB176_178.out _; (with_reducible repeat (first | refine zf ?_ _ | refine zg ?_ | refine ze ?_ _)); refine zt ?_ NB176_178.out _; (with_reducible repeat (first | refine zf ?_ _ | refine zg ?_ | refine ze ?_ _)); refine zt ?_ NB176_178.out _; (with_reducible repeat (first | refine zf ?_ _ | refine zg ?_ | refine ze ?_ _)); exact BK176.out) : p := h
theorem zH1 {p : Prop} (h : p := by exact ⟨_, _, by first | rfl | (simp [errW_none, errW_some] <;> rfl) | (simp [*, errW_none, errW_some] <;> rfl), by first | exact zat _ _ _ _ _ | exact zau _ _ _ _ _ | exact zav _ _ _ _ _ | exact zaw _ _ _ _ _ | exact zax _ _ _ _ _, by first | exact zat _ _ _ _ _ | exact zau _ _ _ _ _ | exact zav _ _ _ _ _ | exact zaw _ _ _ _ _ | exact zax _ _ _ _ _, by repeat (first | (with_reducible first | exact HB.out | apply zi | apply zd | apply zh | refine zj ?_ GE136.out) | exact HB.out)⟩) : p := h
theorem zH2 {p : Prop} (h : p := by exact ⟨by first | rfl | (simp [errW_none, errW_some] <;> rfl) | (simp [*, errW_none, errW_some] <;> rfl), by (with_reducible repeat (first | apply zk | apply zl | apply zn)); exact HO_0.out, by repeat (first | (with_reducible first | exact HB.out | apply zi | apply zd | apply zh) | exact HB.out), by repeat (first | (with_reducible first | exact HK.out | apply Kept.alloc | apply Kept.drewN | apply Kept.drew) | exact HK.out)⟩) : p := h
theorem zH3 {p : Prop} (h : p := by exact ⟨by first | rfl | (simp [errW_none, errW_some] <;> rfl) | (simp [*, errW_none, errW_some] <;> rfl), by repeat (first | (with_reducible first | exact HB.out | apply zi | apply zd | apply zh | refine zj ?_ GE366.out | refine zj ?_ GE382.out | refine zj ?_ GE414.out) | exact HB.out)⟩) : p := h
theorem zH4 {p : Prop} (h : p := by exact ⟨by first | rfl | (simp [errW_none, errW_some] <;> rfl) | (simp [*, errW_none, errW_some] <;> rfl), by repeat (first | (with_reducible first | exact HB.out | apply zi | apply zd | apply zh | refine zj ?_ GE1.out | refine zj ?_ GE2.out | refine zj ?_ GE101.out) | exact HB.out)⟩) : p := h
theorem zH5 {p : Prop} (h : p := by repeat (first | (with_reducible first | exact HK.out | apply Kept.alloc | apply Kept.drewN | apply Kept.drew | refine Kept.setCell ?_ (.inl (Or.inr rfl)) _ | refine Kept.setCell ?_ (.inr GW118.out) _ | refine Kept.setCell ?_ (.inr GW119.out) _) | exact HK.out)) : p := h
theorem zH6 {p : Prop} (h : p := by exact ⟨by first | rfl | (simp [errW_none, errW_some] <;> rfl) | (simp [*, errW_none, errW_some] <;> rfl), by repeat (first | (with_reducible first | exact HB.out | apply zi | apply zd | apply zh | refine zj ?_ GE302.out | refine zj ?_ GE303.out) | exact HB.out)⟩) : p := h
theorem zH7 {p : Prop} (h : p := by exact ⟨by first | rfl | (simp [errW_none, errW_some] <;> rfl) | (simp [*, errW_none, errW_some] <;> rfl), by repeat (first | (with_reducible first | exact HB.out | apply zi | apply zd | apply zh | refine zj ?_ GE307.out | refine zj ?_ GE308.out) | exact HB.out)⟩) : p := h
theorem zH8 {p : Prop} (h : p := by exact ⟨by first | rfl | (simp [errW_none, errW_some] <;> rfl) | (simp [*, errW_none, errW_some] <;> rfl), by repeat (first | (with_reducible first | exact HB.out | apply zi | apply zd | apply zh | refine zj ?_ GE315.out | refine zj ?_ GE316.out) | exact HB.out)⟩) : p := h
theorem zH9 {p : Prop} (h : p := by exact ⟨by first | rfl | (simp [errW_none, errW_some] <;> rfl) | (simp [*, errW_none, errW_some] <;> rfl), by repeat (first | (with_reducible first | exact HB.out | apply zi | apply zd | apply zh | refine zj ?_ GE366.out | refine zj ?_ GE382.out) | exact HB.out)⟩) : p := h
theorem zH10 {p : Prop} (h : p := by exact ⟨by first | rfl | (simp [errW_none, errW_some] <;> rfl) | (simp [*, errW_none, errW_some] <;> rfl), by repeat (first | (with_reducible first | exact HB.out | apply zi | apply zd | apply zh | refine zj ?_ GE312.out | refine zj ?_ GE313.out) | exact HB.out)⟩) : p := h
theorem zH11 {p : Prop} (h : p := by exact ⟨by first | rfl | (simp [errW_none, errW_some] <;> rfl) | (simp [*, errW_none, errW_some] <;> rfl), by repeat (first | (with_reducible first | exact HB.out | apply zi | apply zd | apply zh | refine zj ?_ GE28.out | refine zj ?_ GE29.out) | exact HB.out)⟩) : p := h
theorem zH12 {p : Prop} (h : p := by exact ⟨by first | rfl | (simp [errW_none, errW_some] <;> rfl) | (simp [*, errW_none, errW_some] <;> rfl), by repeat (first | (with_reducible first | exact HB.out | apply zi | apply zd | apply zh | refine zj ?_ GE157.out) | exact HB.out)⟩) : p := h
theorem zH13 {p : Prop} (h : p := by exact ⟨by first | rfl | (simp [errW_none, errW_some] <;> rfl) | (simp [*, errW_none, errW_some] <;> rfl), by repeat (first | (with_reducible first | exact HB.out | apply zi | apply zd | apply zh | refine zj ?_ GE348.out) | exact HB.out)⟩) : p := h
theorem zH14 {p : Prop} (h : p := by exact ⟨by first | rfl | (simp [errW_none, errW_some] <;> rfl) | (simp [*, errW_none, errW_some] <;> rfl), by repeat (first | (with_reducible first | exact HB.out | apply zi | apply zd | apply zh) | exact HB.out)⟩) : p := h
theorem zH15 {p : Prop} (h : p := by repeat (first | (with_reducible first | exact HB.out | apply zi | apply zd | apply zh | refine zj ?_ GE366.out | refine zj ?_ GE382.out | refine zj ?_ GE414.out) | exact HB.out)) : p := h
theorem zH16 {p : Prop} (h : p := by repeat (first | (with_reducible first | exact HB.out | apply zi | apply zd | apply zh | refine zj ?_ GE0.out | refine zj ?_ GE118.out | refine zj ?_ GE119.out) | exact HB.out)) : p := h
theorem zH17 {p : Prop} (h : p := by repeat (first | (with_reducible first | exact HB.out | apply zi | apply zd | apply zh | refine zj ?_ GE0.out | refine zj ?_ GE118.out | refine zj ?_ GE119.out) | exact HB.out)) : p := h
theorem zH18 {p : Prop} (h : p := by exact ⟨by first | rfl | (simp; done) | (simp only [← hji25] <;> (first | rfl | simp)) | (simp [*]; done), by repeat (first | exact Drawn0.refl _ | apply Drawn0.step)⟩) : p := h
theorem zH19 {p : Prop} (h : p := by exact ⟨_, x + 1, rfl, by rw [hl1], by have := X0.out; omega, by have := X1.out; omega, by have := X0.out; omega, ⟨by rw [HS.out, sumN, hp]; rfl⟩, ⟨HB9.out⟩⟩) : p := h
theorem zH20 {p : Prop} (h : p := by repeat (first | (with_reducible first | exact HB.out | apply zi | apply zd | apply zh | refine zj ?_ GE136.out | refine zj ?_ GE141.out) | exact HB.out)) : p := h
theorem zH21 {p : Prop} (h : p := by repeat (first | (with_reducible first | exact HB.out | apply zi | apply zd | apply zh | refine zj ?_ GE262.out | refine zj ?_ GE269.out) | exact HB.out)) : p := h
theorem zH22 {p : Prop} (h : p := by repeat (first | exact (Kd.R_reads' HO_367005.out).2.2 | (with_reducible refine zy ?_ _) | (with_reducible refine zz ?_ _) | (with_reducible refine zaa ?_))) : p := h
theorem zH23 {p : Prop} (h : p := by repeat (first | (with_reducible first | exact HB.out | apply zi | apply zd | apply zh | refine zj ?_ GE176.out | refine zj ?_ GE178.out) | exact HB.out)) : p := h
theorem zH24 {p : Prop} (h : p := by repeat (first | (with_reducible first | exact HB.out | apply zi | apply zd | apply zh | refine zj ?_ GE312.out | refine zj ?_ GE313.out) | exact HB.out)) : p := h
theorem zH25 {p : Prop} (h : p := by repeat (first | exact (Kd.R_reads' HO_383005.out).2.2 | (with_reducible refine zy ?_ _) | (with_reducible refine zz ?_ _) | (with_reducible refine zaa ?_))) : p := h
theorem zH26 {p : Prop} (h : p := by repeat (first | (with_reducible first | exact HB.out | apply zi | apply zd | apply zh | refine zj ?_ GE366.out | refine zj ?_ GE382.out) | exact HB.out)) : p := h
theorem zH27 {p : Prop} (h : p := by refine ⟨hr.1, fun j p hj => d.M_mono (fun k hk => hk) (d.M_move (fun k hk => hfar k (fun he => hk.2 (by rw [he]; simp [Value.ownBlock]))) (hr.2 j p hj))⟩) : p := h
theorem zH28 {p : Prop} (h : p := by rw [← hq_]; exact (by repeat (first | (with_reducible first | exact HB.out | apply zi | apply zd | apply zh | refine zj ?_ GE136.out) | exact HB.out))) : p := h
theorem zH29 {p : Prop} (h : p := by repeat (first | (with_reducible first | exact HB.out | apply zi | apply zd | apply zh | refine zj ?_ GE28.out | refine zj ?_ GE29.out) | exact HB.out)) : p := h
theorem zH30 {p : Prop} (h : p := by repeat (first | (with_reducible first | exact HB.out | apply zi | apply zd | apply zh | refine zj ?_ GE366.out | refine zj ?_ GE382.out) | exact HB.out)) : p := h
theorem zH31 {p : Prop} (h : p := by repeat (first | exact (Kd.R_reads' HO364.out).2.2 | (with_reducible refine zy ?_ _) | (with_reducible refine zz ?_ _) | (with_reducible refine zaa ?_))) : p := h
theorem zH32 {p : Prop} (h : p := by repeat (first | exact (Kd.R_reads' HO380.out).2.2 | (with_reducible refine zy ?_ _) | (with_reducible refine zz ?_ _) | (with_reducible refine zaa ?_))) : p := h
theorem zH33 {p : Prop} (h : p := by repeat (first | exact (Kd.R_reads' HO387.out).2.2 | (with_reducible refine zy ?_ _) | (with_reducible refine zz ?_ _) | (with_reducible refine zaa ?_))) : p := h
theorem zH34 {p : Prop} (h : p := by repeat (first | exact (Kd.R_reads' HO412.out).2.2 | (with_reducible refine zy ?_ _) | (with_reducible refine zz ?_ _) | (with_reducible refine zaa ?_))) : p := h
theorem zH35 {p : Prop} (h : p := by repeat (first | exact (Kd.R_reads' HO_7.out).2.2 | (with_reducible refine zy ?_ _) | (with_reducible refine zz ?_ _) | (with_reducible refine zaa ?_))) : p := h
theorem zH36 {p : Prop} (h : p := by repeat (first | exact (Kd.R_reads' HO_4.out).2.2 | (with_reducible refine zy ?_ _) | (with_reducible refine zz ?_ _) | (with_reducible refine zaa ?_))) : p := h
theorem zH37 {p : Prop} (h : p := by repeat (first | exact (Kd.R_reads' HO_8.out).2.2 | (with_reducible refine zy ?_ _) | (with_reducible refine zz ?_ _) | (with_reducible refine zaa ?_))) : p := h
theorem zH38 {p : Prop} (h : p := by repeat (first | exact (zak HR1_5.out HB.out) | (with_reducible refine zy ?_ _) | (with_reducible refine zz ?_ _) | (with_reducible refine zaa ?_))) : p := h
theorem zH39 {p : Prop} (h : p := by repeat (first | exact (zak HR0_5.out HB.out) | (with_reducible refine zy ?_ _) | (with_reducible refine zz ?_ _) | (with_reducible refine zaa ?_))) : p := h
theorem zH40 {p : Prop} (h : p := by repeat (first | exact (zak HR0.out HB.out) | (with_reducible refine zy ?_ _) | (with_reducible refine zz ?_ _) | (with_reducible refine zaa ?_))) : p := h
theorem zH41 {p : Prop} (h : p := by repeat (first | exact HR0.out | (with_reducible refine zy ?_ _) | (with_reducible refine zz ?_ _) | (with_reducible refine zaa ?_))) : p := h
theorem zH42 {p : Prop} (h : p := by repeat (first | (with_reducible first | exact HB.out | apply zi | apply zd | apply zh | refine zj ?_ GE136.out) | exact HB.out)) : p := h
theorem zH43 {p : Prop} (h : p := by repeat (first | (with_reducible first | exact HB.out | apply zi | apply zd | apply zh | refine zj ?_ GE176.out) | exact HB.out)) : p := h
theorem zH44 {p : Prop} (h : p := by repeat (first | (with_reducible first | exact HB.out | apply zi | apply zd | apply zh | refine zj ?_ GE262.out) | exact HB.out)) : p := h
theorem zH45 {p : Prop} (h : p := by repeat (first | (with_reducible first | exact HB.out | apply zi | apply zd | apply zh | refine zj ?_ GE348.out) | exact HB.out)) : p := h
theorem zH46 {p : Prop} (h : p := by repeat (first | (with_reducible first | exact HK.out | apply Kept.alloc | apply Kept.drewN | apply Kept.drew) | exact HK.out)) : p := h
theorem zH47 {p : Prop} (h : p := by rw [← hq_]; exact (by (with_reducible repeat (first | refine zf ?_ _ | refine zg ?_ | refine ze ?_ _)); exact BK136.out)) : p := h
theorem zH48 {p : Prop} (h : p := by first | exact zat _ _ _ _ _ | exact zau _ _ _ _ _ | exact zav _ _ _ _ _ | exact zaw _ _ _ _ _ | exact zax _ _ _ _ _) : p := h
theorem zH49 {p : Prop} (h : p := by exact ⟨by first | rfl | (simp; done) | (simp [*]; done), by repeat (first | exact Drawn0.refl _ | apply Drawn0.step)⟩) : p := h
theorem zH50 {p : Prop} (h : p := by (with_reducible repeat (first | apply zk | apply zl | apply zn)); exact zs HO412.out (fun _ hk => ⟨hk.1.2, hk.2⟩)) : p := h
theorem zH51 {p : Prop} (h : p := by rw [show t396.length = t378.length from (Kd.R_reads' HO_383005.out).1.symm]; exact (Kd.R_reads' HO_383005.out).2.1) : p := h
theorem zH52 {p : Prop} (h : p := by (with_reducible repeat (first | apply zk | apply zl | apply zn)); exact zs HO369.out (fun _ hk => trivial)) : p := h
theorem zH53 {p : Prop} (h : p := by (with_reducible repeat (first | apply zk | apply zl | apply zn)); exact zs HO_8.out (fun _ hk => trivial)) : p := h
theorem zH54 {p : Prop} (h : p := by exact (by (with_reducible repeat (first | refine zf ?_ _ | refine zg ?_ | refine ze ?_ _)); exact BK28.out)) : p := h
theorem zH55 {p : Prop} (h : p := by exact (by (with_reducible repeat (first | refine zf ?_ _ | refine zg ?_ | refine ze ?_ _)); exact BK29.out)) : p := h
theorem zH56 {p : Prop} (h : p := by (with_reducible repeat (first | apply zk | apply zl | apply zn)); exact zs HO356.out (fun _ hk => hk.2)) : p := h
theorem zH57 {p : Prop} (h : p := by (with_reducible repeat (first | apply zk | apply zl | apply zn)); exact zs HO364.out (fun _ hk => hk.2)) : p := h
theorem zH58 {p : Prop} (h : p := by (with_reducible repeat (first | apply zk | apply zl | apply zn)); exact zs HO372.out (fun _ hk => hk.2)) : p := h
theorem zH59 {p : Prop} (h : p := by (with_reducible repeat (first | apply zk | apply zl | apply zn)); exact zs HO380.out (fun _ hk => hk.2)) : p := h
theorem zH60 {p : Prop} (h : p := by repeat (first | (with_reducible first | exact HB.out | apply zi | apply zd | apply zh) | exact HB.out)) : p := h
theorem zH61 {p : Prop} (h : p := by rw [show t394.length = t370.length from (Kd.R_reads' HO_8.out).1.symm]; exact (Kd.R_reads' HO_8.out).2.1) : p := h
theorem zH62 {p : Prop} (h : p := by (with_reducible repeat (first | refine zf ?_ _ | refine zg ?_ | refine ze ?_ _)); exact BK118.out) : p := h
theorem zH63 {p : Prop} (h : p := by (with_reducible repeat (first | refine zf ?_ _ | refine zg ?_ | refine ze ?_ _)); exact BK119.out) : p := h
theorem zH64 {p : Prop} (h : p := by (with_reducible repeat (first | refine zf ?_ _ | refine zg ?_ | refine ze ?_ _)); exact BK414.out) : p := h
theorem zH65 {p : Prop} (h : p := by (with_reducible repeat (first | refine zf ?_ _ | refine zg ?_ | refine ze ?_ _)); exact BK366.out) : p := h
theorem zH66 {p : Prop} (h : p := by (with_reducible repeat (first | refine zf ?_ _ | refine zg ?_ | refine ze ?_ _)); exact BK382.out) : p := h
theorem zH67 {p : Prop} (h : p := by (with_reducible repeat (first | refine zf ?_ _ | refine zg ?_ | refine ze ?_ _)); exact BK0.out) : p := h
theorem zH68 {p : Prop} (h : p := by first | rfl | (simp [errW_none, errW_some] <;> rfl) | (simp [*, errW_none, errW_some] <;> rfl)) : p := h
theorem zH69 {p : Prop} (h : p := by (with_reducible repeat (first | apply zk | apply zl | apply zn)); exact HO_367005.out) : p := h
theorem zH70 {p : Prop} (h : p := by (with_reducible repeat (first | apply zk | apply zl | apply zn)); exact HO_383005.out) : p := h
theorem zH71 {p : Prop} (h : p := by (with_reducible repeat (first | apply zk | apply zl | apply zn)); exact HO0_5.out) : p := h
theorem zH72 {p : Prop} (h : p := by (with_reducible repeat (first | apply zk | apply zl | apply zn)); exact HO_4.out) : p := h
theorem zH73 {p : Prop} (h : p := by (with_reducible repeat (first | apply zk | apply zl | apply zn)); exact HO_8.out) : p := h
theorem zH74 {p : Prop} (h : p := by (with_reducible repeat (first | apply zk | apply zl | apply zn)); exact HO_0.out) : p := h
theorem zH75 {p : Prop} (h : p := by (with_reducible repeat (first | apply zk | apply zl | apply zn)); exact HO0.out) : p := h
theorem zH76 {p : Prop} (h : p := by have := HJ8.out; have := HJ49.out; first | omega | exact Nat.le_refl _) : p := h
theorem zH77 {p : Prop} (h : p := by repeat (first | exact Drawn0.refl _ | apply Drawn0.step)) : p := h
theorem zH78 {p : Prop} (h : p := by have := HJ8.out; first | omega | exact Nat.le_refl _) : p := h
theorem zH79 {p : Prop} (h : p := by have := HJ5.out; first | omega | exact Nat.le_refl _) : p := h
theorem zH80 {p : Prop} (h : p := by have := HK1.out; first | omega | exact Nat.le_refl _) : p := h
theorem zH81 {p : Prop} (h : p := by exact ⟨_, rfl, HF.1, HF.2.1, HF.2.2.1, HF.2.2.2⟩) : p := h
theorem zH82 {p : Prop} (h : p := by have := HK1.out; have := HJ4.out; omega) : p := h
theorem zH83 {p : Prop} (h : p := by first | (go_simp; done) | (go_simp; rfl)) : p := h
theorem zH84 {p : Prop} (h : p := by first | omega | exact Nat.le_refl _) : p := h
theorem zH85 {p : Prop} (h : p := by exact (Kd.R_reads' HO_383005.out).2.1) : p := h
theorem zH86 {p : Prop} (h : p := by exact (Kd.R_reads' HO_4.out).2.1) : p := h
theorem zH87 {p : Prop} (h : p := by exact (Kd.R_reads' HO_8.out).2.1) : p := h
theorem zH88 {p : Prop} (h : p := by have := HK1.out; omega) : p := h
theorem zH89 {p : Prop} (h : p := by have := Y1.out; omega) : p := h
theorem zH90 {p : Prop} (h : p := by have := Y0.out; omega) : p := h
theorem zK91 {p : Prop} (h : p := by (with_reducible repeat (first | refine zf ?_ _ | refine zg ?_ | refine ze ?_ _)); refine zt ?_ NB285_269.out _; (with_reducible repeat (first | refine zf ?_ _ | refine zg ?_ | refine ze ?_ _)); refine zt ?_ NB285_269.out _; (with_reducible repeat (first | refine zf ?_ _ | refine zg ?_ | refine ze ?_ _)); refine zt ?_ NB285_269.out _; (with_reducible repeat (first | refine zf ?_ _ | refine zg ?_ | refine ze ?_ _)); refine zt ?_ NB285_269.out _; (with_reducible repeat (first | refine zf ?_ _ | refine zg ?_ | refine ze ?_ _)); refine zt ?_ NB285_269.out _; (with_reducible repeat (first | refine zf ?_ _ | refine zg ?_ | refine ze ?_ _)); refine zt ?_ NB285_269.out _; (with_reducible repeat (first | refine zf ?_ _ | refine zg ?_ | refine ze ?_ _)); refine zu (cs := (zo2 t282 0)) ?_ 1 _ rfl; (with_reducible repeat (first | refine zf ?_ _ | refine zg ?_ | refine ze ?_ _)); refine zu (cs := (zo2 0 0)) ?_ 0 _ rfl; (with_reducible repeat (first | refine zf ?_ _ | refine zg ?_ | refine ze ?_ _)); refine zt ?_ NB285_284.out _; (with_reducible repeat (first | refine zf ?_ _ | refine zg ?_ | refine ze ?_ _)); refine zt ?_ NB285_284.out _; (with_reducible repeat (first | refine zf ?_ _ | refine zg ?_ | refine ze ?_ _)); refine zt ?_ NB285_284.out _; (with_reducible repeat (first | refine zf ?_ _ | refine zg ?_ | refine ze ?_ _)); refine zt ?_ NB285_284.out _; (with_reducible repeat (first | refine zf ?_ _ | refine zg ?_ | refine ze ?_ _)); refine zt ?_ NB285_284.out _; (with_reducible repeat (first | refine zf ?_ _ | refine zg ?_ | refine ze ?_ _)); refine zt ?_ NB285_284.out _; (with_reducible repeat (first | refine zf ?_ _ | refine zg ?_ | refine ze ?_ _)); exact BK285.out) : p := h
theorem zK92 {p : Prop} (h : p := by (with_reducible repeat (first | refine zf ?_ _ | refine zg ?_ | refine ze ?_ _)); refine zu (cs := (zs6 t373 t374 t375 t376 t377 (.slice none 0 0))) ?_ 5 _ rfl; (with_reducible repeat (first | refine zf ?_ _ | refine zg ?_ | refine ze ?_ _)); refine zu (cs := (zs6 t373 t374 t375 t376 0 (.slice none 0 0))) ?_ 4 _ rfl; (with_reducible repeat (first | refine zf ?_ _ | refine zg ?_ | refine ze ?_ _)); refine zu (cs := (zs6 t373 t374 t375 0 0 (.slice none 0 0))) ?_ 3 _ rfl; (with_reducible repeat (first | refine zf ?_ _ | refine zg ?_ | refine ze ?_ _)); refine zu (cs := (zs6 t373 t374 0 0 0 (.slice none 0 0))) ?_ 2 _ rfl; (with_reducible repeat (first | refine zf ?_ _ | refine zg ?_ | refine ze ?_ _)); refine zu (cs := (zs6 t373 0 0 0 0 (.slice none 0 0))) ?_ 1 _ rfl; (with_reducible repeat (first | refine zf ?_ _ | refine zg ?_ | refine ze ?_ _)); refine zu (cs := (zs6 0 0 0 0 0 (.slice none 0 0))) ?_ 0 _ rfl; (with_reducible repeat (first | refine zf ?_ _ | refine zg ?_ | refine ze ?_ _)); exact BK382.out) : p := h
theorem zK93 {p : Prop} (h : p := by (with_reducible repeat (first | refine zf ?_ _ | refine zg ?_ | refine ze ?_ _)); refine zu (cs := (zs6 t405 t406 t407 t408 t409 (.slice none 0 0))) ?_ 5 _ rfl; (with_reducible repeat (first | refine zf ?_ _ | refine zg ?_ | refine ze ?_ _)); refine zu (cs := (zs6 t405 t406 t407 t408 0 (.slice none 0 0))) ?_ 4 _ rfl; (with_reducible repeat (first | refine zf ?_ _ | refine zg ?_ | refine ze ?_ _)); refine zu (cs := (zs6 t405 t406 t407 0 0 (.slice none 0 0))) ?_ 3 _ rfl; (with_reducible repeat (first | refine zf ?_ _ | refine zg ?_ | refine ze ?_ _)); refine zu (cs := (zs6 t405 t406 0 0 0 (.slice none 0 0))) ?_ 2 _ rfl; (with_reducible repeat (first | refine zf ?_ _ | refine zg ?_ | refine ze ?_ _)); refine zu (cs := (zs6 t405 0 0 0 0 (.slice none 0 0))) ?_ 1 _ rfl; (with_reducible repeat (first | refine zf ?_ _ | refine zg ?_ | refine ze ?_ _)); refine zu (cs := (zs6 0 0 0 0 0 (.slice none 0 0))) ?_ 0 _ rfl; (with_reducible repeat (first | refine zf ?_ _ | refine zg ?_ | refine ze ?_ _)); exact BK414.out) : p := h
theorem zK94 {p : Prop} (h : p := by (with_reducible repeat (first | refine zf ?_ _ | refine zg ?_ | refine ze ?_ _)); refine zu (cs := (zs6 0 0 0 0 0 (.slice none 0 0))) ?_ 5 _ rfl; (with_reducible repeat (first | refine zf ?_ _ | refine zg ?_ | refine ze ?_ _)); refine zu (cs := (zs6 0 0 0 0 0 (.slice none 0 0))) ?_ 4 _ rfl; (with_reducible repeat (first | refine zf ?_ _ | refine zg ?_ | refine ze ?_ _)); refine zu (cs := (zs6 0 0 0 0 0 (.slice none 0 0))) ?_ 3 _ rfl; (with_reducible repeat (first | refine zf ?_ _ | refine zg ?_ | refine ze ?_ _)); refine zu (cs := (zs6 0 0 0 0 0 (.slice none 0 0))) ?_ 2 _ rfl; (with_reducible repeat (first | refine zf ?_ _ | refine zg ?_ | refine ze ?_ _)); refine zu (cs := (zs6 0 0 0 0 0 (.slice none 0 0))) ?_ 1 _ rfl; (with_reducible repeat (first | refine zf ?_ _ | refine zg ?_ | refine ze ?_ _)); refine zu (cs := (zs6 0 0 0 0 0 (.slice none 0 0))) ?_ 0 _ rfl; (with_reducible repeat (first | refine zf ?_ _ | refine zg ?_ | refine ze ?_ _)); exact BK136.out) : p := h
theorem zK95 {p : Prop} (h : p := by (with_reducible repeat (first | refine zf ?_ _ | refine zg ?_ | refine ze ?_ _)); refine zu (cs := (zs6 0 0 0 0 0 (.slice none 0 0))) ?_ 5 _ rfl; (with_reducible repeat (first | refine zf ?_ _ | refine zg ?_ | refine ze ?_ _)); refine zu (cs := (zs6 0 0 0 0 0 (.slice none 0 0))) ?_ 4 _ rfl; (with_reducible repeat (first | refine zf ?_ _ | refine zg ?_ | refine ze ?_ _)); refine zu (cs := (zs6 0 0 0 0 0 (.slice none 0 0))) ?_ 3 _ rfl; (with_reducible repeat (first | refine zf ?_ _ | refine zg ?_ | refine ze ?_ _)); refine zu (cs := (zs6 0 0 0 0 0 (.slice none 0 0))) ?_ 2 _ rfl; (with_reducible repeat (first | refine zf ?_ _ | refine zg ?_ | refine ze ?_ _)); refine zu (cs := (zs6 0 0 0 0 0 (.slice none 0 0))) ?_ 1 _ rfl; (with_reducible repeat (first | refine zf ?_ _ | refine zg ?_ | refine ze ?_ _)); refine zu (cs := (zs6 0 0 0 0 0 (.slice none 0 0))) ?_ 0 _ rfl; (with_reducible repeat (first | refine zf ?_ _ | refine zg ?_ | refine ze ?_ _)); exact BK262.out) : p := h
theorem zK96 {p : Prop} (h : p := by (with_reducible repeat (first | refine zf ?_ _ | refine zg ?_ | refine ze ?_ _)); refine zt ?_ NB366_382.out _; (with_reducible repeat (first | refine zf ?_ _ | refine zg ?_ | refine ze ?_ _)); refine zt ?_ NB366_382.out _; (with_reducible repeat (first | refine zf ?_ _ | refine zg ?_ | refine ze ?_ _)); refine zt ?_ NB366_382.out _; (with_reducible repeat (first | refine zf ?_ _ | refine zg ?_ | refine ze ?_ _)); refine zt ?_ NB366_382.out _; (with_reducible repeat (first | refine zf ?_ _ | refine zg ?_ | refine ze ?_ _)); refine zt ?_ NB366_382.out _; (with_reducible repeat (first | refine zf ?_ _ | refine zg ?_ | refine ze ?_ _)); refine zt ?_ NB366_382.out _; (with_reducible repeat (first | refine zf ?_ _ | refine zg ?_ | refine ze ?_ _)); exact BK366.out) : p := h
theorem zK97 {p : Prop} (h : p := by (with_reducible repeat (first | refine zf ?_ _ | refine zg ?_ | refine ze ?_ _)); refine zt ?_ NB366_414.out _; (with_reducible repeat (first | refine zf ?_ _ | refine zg ?_ | refine ze ?_ _)); refine zt ?_ NB366_414.out _; (with_reducible repeat (first | refine zf ?_ _ | refine zg ?_ | refine ze ?_ _)); refine zt ?_ NB366_414.out _; (with_reducible repeat (first | refine zf ?_ _ | refine zg ?_ | refine ze ?_ _)); refine zt ?_ NB366_414.out _; (with_reducible repeat (first | refine zf ?_ _ | refine zg ?_ | refine ze ?_ _)); refine zt ?_ NB366_414.out _; (with_reducible repeat (first | refine zf ?_ _ | refine zg ?_ | refine ze ?_ _)); refine zt ?_ NB366_414.out _; (with_reducible repeat (first | refine zf ?_ _ | refine zg ?_ | refine ze ?_ _)); exact BK366.out) : p := h
theorem zK98 {p : Prop} (h : p := by (with_reducible repeat (first | refine zf ?_ _ | refine zg ?_ | refine ze ?_ _)); refine zt ?_ NB382_414.out _; (with_reducible repeat (first | refine zf ?_ _ | refine zg ?_ | refine ze ?_ _)); refine zt ?_ NB382_414.out _; (with_reducible repeat (first | refine zf ?_ _ | refine zg ?_ | refine ze ?_ _)); refine zt ?_ NB382_414.out _; (with_reducible repeat (first | refine zf ?_ _ | refine zg ?_ | refine ze ?_ _)); refine zt ?_ NB382_414.out _; (with_reducible repeat (first | refine zf ?_ _ | refine zg ?_ | refine ze ?_ _)); refine zt ?_ NB382_414.out _; (with_reducible repeat (first | refine zf ?_ _ | refine zg ?_ | refine ze ?_ _)); refine zt ?_ NB382_414.out _; (with_reducible repeat (first | refine zf ?_ _ | refine zg ?_ | refine ze ?_ _)); exact BK382.out) : p := h
theorem zK99 {p : Prop} (h : p := by (with_reducible repeat (first | apply zk | apply zl | apply zn)); exact (zs (zm (p := ⟨gb414, 5, none⟩) (zm (p := ⟨gb414, 4, none⟩) (zm (p := ⟨gb414, 3, none⟩) (zm (p := ⟨gb414, 2, none⟩) (zm (p := ⟨gb414, 1, none⟩) (zm (p := ⟨gb414, 0, none⟩) (zw HO_367005.out BK414.out zG84) (fun _ hk => hk.2) (.int .i64 t405)) (fun _ hk => hk.2) (.int .i64 t406)) (fun _ hk => hk.2) (.int .i64 t407)) (fun _ hk => hk.2) (.int .i64 t408)) (fun _ hk => hk.2) (.int .i64 t409)) (fun _ hk => hk.2) (.slice Ao116 t410.length co116)) (fun _ h_ => h_.1))) : p := h
theorem zK100 {p : Prop} (h : p := by (with_reducible repeat (first | apply zk | apply zl | apply zn)); exact (zs (zm (p := ⟨gb414, 5, none⟩) (zm (p := ⟨gb414, 4, none⟩) (zm (p := ⟨gb414, 3, none⟩) (zm (p := ⟨gb414, 2, none⟩) (zm (p := ⟨gb414, 1, none⟩) (zm (p := ⟨gb414, 0, none⟩) (zw HO_383005.out BK414.out zG84) (fun _ hk => hk.2) (.int .i64 t405)) (fun _ hk => hk.2) (.int .i64 t406)) (fun _ hk => hk.2) (.int .i64 t407)) (fun _ hk => hk.2) (.int .i64 t408)) (fun _ hk => hk.2) (.int .i64 t409)) (fun _ hk => hk.2) (.slice Ao116 t410.length co116)) (fun _ h_ => h_.1))) : p := h
theorem zK101 {p : Prop} (h : p := by (with_reducible repeat (first | apply zk | apply zl | apply zn)); exact (zs (zm (p := ⟨gb414, 5, none⟩) (zm (p := ⟨gb414, 4, none⟩) (zm (p := ⟨gb414, 3, none⟩) (zm (p := ⟨gb414, 2, none⟩) (zm (p := ⟨gb414, 1, none⟩) (zm (p := ⟨gb414, 0, none⟩) (zw HO404.out BK414.out zG84) (fun _ hk => hk.2) (.int .i64 t405)) (fun _ hk => hk.2) (.int .i64 t406)) (fun _ hk => hk.2) (.int .i64 t407)) (fun _ hk => hk.2) (.int .i64 t408)) (fun _ hk => hk.2) (.int .i64 t409)) (fun _ hk => hk.2) (.slice Ao116 t410.length co116)) (fun _ h_ => h_.1))) : p := h
theorem zK102 {p : Prop} (h : p := by (with_reducible repeat (first | apply zk | apply zl | apply zn)); exact (zs (zm (p := ⟨gb414, 5, none⟩) (zm (p := ⟨gb414, 4, none⟩) (zm (p := ⟨gb414, 3, none⟩) (zm (p := ⟨gb414, 2, none⟩) (zm (p := ⟨gb414, 1, none⟩) (zm (p := ⟨gb414, 0, none⟩) (zw HO401.out BK414.out zG84) (fun _ hk => hk.2) (.int .i64 t405)) (fun _ hk => hk.2) (.int .i64 t406)) (fun _ hk => hk.2) (.int .i64 t407)) (fun _ hk => hk.2) (.int .i64 t408)) (fun _ hk => hk.2) (.int .i64 t409)) (fun _ hk => hk.2) (.slice Ao116 t410.length co116)) (fun _ h_ => h_.1))) : p := h
theorem zK103 {p : Prop} (h : p := by (with_reducible repeat (first | apply zk | apply zl | apply zn)); exact (zs (zm (p := ⟨gb414, 5, none⟩) (zm (p := ⟨gb414, 4, none⟩) (zm (p := ⟨gb414, 3, none⟩) (zm (p := ⟨gb414, 2, none⟩) (zm (p := ⟨gb414, 1, none⟩) (zm (p := ⟨gb414, 0, none⟩) (zw HO412.out BK414.out zG84) (fun _ hk => hk.2) (.int .i64 t405)) (fun _ hk => hk.2) (.int .i64 t406)) (fun _ hk => hk.2) (.int .i64 t407)) (fun _ hk => hk.2) (.int .i64 t408)) (fun _ hk => hk.2) (.int .i64 t409)) (fun _ hk => hk.2) (.slice Ao116 t410.length co116)) (fun _ h_ => h_.1))) : p := h
theorem zK104 {p : Prop} (h : p := by (with_reducible repeat (first | apply zk | apply zl | apply zn)); exact (zs (zm (p := ⟨gb414, 5, none⟩) (zm (p := ⟨gb414, 4, none⟩) (zm (p := ⟨gb414, 3, none⟩) (zm (p := ⟨gb414, 2, none⟩) (zm (p := ⟨gb414, 1, none⟩) (zm (p := ⟨gb414, 0, none⟩) (zw HO_4.out BK414.out zG84) (fun _ hk => hk.2) (.int .i64 t405)) (fun _ hk => hk.2) (.int .i64 t406)) (fun _ hk => hk.2) (.int .i64 t407)) (fun _ hk => hk.2) (.int .i64 t408)) (fun _ hk => hk.2) (.int .i64 t409)) (fun _ hk => hk.2) (.slice Ao116 t410.length co116)) (fun _ h_ => h_.1))) : p := h
theorem zK105 {p : Prop} (h : p := by (with_reducible repeat (first | apply zk | apply zl | apply zn)); exact (zs (zm (p := ⟨gb414, 5, none⟩) (zm (p := ⟨gb414, 4, none⟩) (zm (p := ⟨gb414, 3, none⟩) (zm (p := ⟨gb414, 2, none⟩) (zm (p := ⟨gb414, 1, none⟩) (zm (p := ⟨gb414, 0, none⟩) (zw HO_8.out BK414.out zG84) (fun _ hk => hk.2) (.int .i64 t405)) (fun _ hk => hk.2) (.int .i64 t406)) (fun _ hk => hk.2) (.int .i64 t407)) (fun _ hk => hk.2) (.int .i64 t408)) (fun _ hk => hk.2) (.int .i64 t409)) (fun _ hk => hk.2) (.slice Ao116 t410.length co116)) (fun _ h_ => h_.1))) : p := h
theorem zK106 {p : Prop} (h : p := by (with_reducible repeat (first | apply zk | apply zl | apply zn)); exact (zs (zm (p := ⟨gb366, 5, none⟩) (zm (p := ⟨gb366, 4, none⟩) (zm (p := ⟨gb366, 3, none⟩) (zm (p := ⟨gb366, 2, none⟩) (zm (p := ⟨gb366, 1, none⟩) (zm (p := ⟨gb366, 0, none⟩) (zw HO353.out BK366.out zG84) (fun _ hk => hk.2) (.int .i64 t357)) (fun _ hk => hk.2) (.int .i64 t358)) (fun _ hk => hk.2) (.int .i64 t359)) (fun _ hk => hk.2) (.int .i64 t360)) (fun _ hk => hk.2) (.int .i64 t361)) (fun _ hk => hk.2) (.slice Ao16 t362.length co16)) (fun _ h_ => h_.1))) : p := h
theorem zK107 {p : Prop} (h : p := by (with_reducible repeat (first | apply zk | apply zl | apply zn)); exact (zs (zm (p := ⟨gb382, 5, none⟩) (zm (p := ⟨gb382, 4, none⟩) (zm (p := ⟨gb382, 3, none⟩) (zm (p := ⟨gb382, 2, none⟩) (zm (p := ⟨gb382, 1, none⟩) (zm (p := ⟨gb382, 0, none⟩) (zw HO372.out BK382.out zG84) (fun _ hk => hk.2) (.int .i64 t373)) (fun _ hk => hk.2) (.int .i64 t374)) (fun _ hk => hk.2) (.int .i64 t375)) (fun _ hk => hk.2) (.int .i64 t376)) (fun _ hk => hk.2) (.int .i64 t377)) (fun _ hk => hk.2) (.slice Ao23 t378.length co23)) (fun _ h_ => h_.1))) : p := h
theorem zK108 {p : Prop} (h : p := by (with_reducible repeat (first | apply zk | apply zl | apply zn)); exact (zs (zm (p := ⟨gb382, 5, none⟩) (zm (p := ⟨gb382, 4, none⟩) (zm (p := ⟨gb382, 3, none⟩) (zm (p := ⟨gb382, 2, none⟩) (zm (p := ⟨gb382, 1, none⟩) (zm (p := ⟨gb382, 0, none⟩) (zw HO356.out BK382.out zG84) (fun _ hk => hk.2) (.int .i64 t373)) (fun _ hk => hk.2) (.int .i64 t374)) (fun _ hk => hk.2) (.int .i64 t375)) (fun _ hk => hk.2) (.int .i64 t376)) (fun _ hk => hk.2) (.int .i64 t377)) (fun _ hk => hk.2) (.slice Ao23 t378.length co23)) (fun _ h_ => h_.1))) : p := h
theorem zK109 {p : Prop} (h : p := by (with_reducible repeat (first | apply zk | apply zl | apply zn)); exact (zs (zm (p := ⟨gb382, 5, none⟩) (zm (p := ⟨gb382, 4, none⟩) (zm (p := ⟨gb382, 3, none⟩) (zm (p := ⟨gb382, 2, none⟩) (zm (p := ⟨gb382, 1, none⟩) (zm (p := ⟨gb382, 0, none⟩) (zw HO353.out BK382.out zG84) (fun _ hk => hk.2) (.int .i64 t373)) (fun _ hk => hk.2) (.int .i64 t374)) (fun _ hk => hk.2) (.int .i64 t375)) (fun _ hk => hk.2) (.int .i64 t376)) (fun _ hk => hk.2) (.int .i64 t377)) (fun _ hk => hk.2) (.slice Ao23 t378.length co23)) (fun _ h_ => h_.1))) : p := h
theorem zK110 {p : Prop} (h : p := by (with_reducible repeat (first | apply zk | apply zl | apply zn)); exact (zs (zm (p := ⟨gb382, 5, none⟩) (zm (p := ⟨gb382, 4, none⟩) (zm (p := ⟨gb382, 3, none⟩) (zm (p := ⟨gb382, 2, none⟩) (zm (p := ⟨gb382, 1, none⟩) (zm (p := ⟨gb382, 0, none⟩) (zw HO364.out BK382.out zG84) (fun _ hk => hk.2) (.int .i64 t373)) (fun _ hk => hk.2) (.int .i64 t374)) (fun _ hk => hk.2) (.int .i64 t375)) (fun _ hk => hk.2) (.int .i64 t376)) (fun _ hk => hk.2) (.int .i64 t377)) (fun _ hk => hk.2) (.slice Ao23 t378.length co23)) (fun _ h_ => h_.1))) : p := h
theorem zK111 {p : Prop} (h : p := by (with_reducible repeat (first | apply zk | apply zl | apply zn)); exact (zs (zm (p := ⟨gb382, 5, none⟩) (zm (p := ⟨gb382, 4, none⟩) (zm (p := ⟨gb382, 3, none⟩) (zm (p := ⟨gb382, 2, none⟩) (zm (p := ⟨gb382, 1, none⟩) (zm (p := ⟨gb382, 0, none⟩) (zw HO369.out BK382.out zG84) (fun _ hk => hk.2) (.int .i64 t373)) (fun _ hk => hk.2) (.int .i64 t374)) (fun _ hk => hk.2) (.int .i64 t375)) (fun _ hk => hk.2) (.int .i64 t376)) (fun _ hk => hk.2) (.int .i64 t377)) (fun _ hk => hk.2) (.slice Ao23 t378.length co23)) (fun _ h_ => h_.1))) : p := h
theorem zK112 {p : Prop} (h : p := by (with_reducible repeat (first | apply zk | apply zl | apply zn)); exact (zs (zm (p := ⟨gb382, 5, none⟩) (zm (p := ⟨gb382, 4, none⟩) (zm (p := ⟨gb382, 3, none⟩) (zm (p := ⟨gb382, 2, none⟩) (zm (p := ⟨gb382, 1, none⟩) (zm (p := ⟨gb382, 0, none⟩) (zw HO380.out BK382.out zG84) (fun _ hk => hk.2) (.int .i64 t373)) (fun _ hk => hk.2) (.int .i64 t374)) (fun _ hk => hk.2) (.int .i64 t375)) (fun _ hk => hk.2) (.int .i64 t376)) (fun _ hk => hk.2) (.int .i64 t377)) (fun _ hk => hk.2) (.slice Ao23 t378.length co23)) (fun _ h_ => h_.1))) : p := h
theorem zK113 {p : Prop} (h : p := by first | exact HK.out.1 | exact (show Kept w _ (fun k_ => (P0_5_ k_) ∨ k_ = gi0) from by repeat (first | (with_reducible first | exact HK.out | apply Kept.alloc | apply Kept.drewN | apply Kept.drew | refine Kept.setCell ?_ (.inl (Or.inr rfl)) _ | refine Kept.setCell ?_ (.inr GW118.out) _ | refine Kept.setCell ?_ (.inr GW119.out) _) | exact HK.out)).1) : p := h
theorem zK114 {p : Prop} (h : p := by (with_reducible repeat (first | refine zf ?_ _ | refine zg ?_ | refine ze ?_ _)); refine zt ?_ NB0_119.out _; (with_reducible repeat (first | refine zf ?_ _ | refine zg ?_ | refine ze ?_ _)); refine zt ?_ NB0_119.out _; (with_reducible repeat (first | refine zf ?_ _ | refine zg ?_ | refine ze ?_ _)); exact BK0.out) : p := h
theorem zK115 {p : Prop} (h : p := by first | exact Nat.ne_of_lt (Nat.lt_of_lt_of_le zG77 GW284.out) | (rw [add_block]; exact Nat.ne_of_lt (Nat.lt_of_lt_of_le zG77 GW284.out)) | (show (Addr.add _ _).block ≠ _; rw [add_block]; exact Nat.ne_of_lt (Nat.lt_of_lt_of_le zG77 GW284.out)) | (dsimp only; exact Nat.ne_of_lt (Nat.lt_of_lt_of_le zG77 GW284.out))) : p := h
theorem zK116 {p : Prop} (h : p := by first | exact Nat.ne_of_lt (Nat.lt_of_lt_of_le zG78 GW284.out) | (rw [add_block]; exact Nat.ne_of_lt (Nat.lt_of_lt_of_le zG78 GW284.out)) | (show (Addr.add _ _).block ≠ _; rw [add_block]; exact Nat.ne_of_lt (Nat.lt_of_lt_of_le zG78 GW284.out)) | (dsimp only; exact Nat.ne_of_lt (Nat.lt_of_lt_of_le zG78 GW284.out))) : p := h
theorem zK117 {p : Prop} (h : p := by first | exact Nat.ne_of_lt (Nat.lt_of_lt_of_le zG79 GW284.out) | (rw [add_block]; exact Nat.ne_of_lt (Nat.lt_of_lt_of_le zG79 GW284.out)) | (show (Addr.add _ _).block ≠ _; rw [add_block]; exact Nat.ne_of_lt (Nat.lt_of_lt_of_le zG79 GW284.out)) | (dsimp only; exact Nat.ne_of_lt (Nat.lt_of_lt_of_le zG79 GW284.out))) : p := h
theorem zK118 {p : Prop} (h : p := by first | exact Nat.ne_of_lt (Nat.lt_of_lt_of_le zG80 GW284.out) | (rw [add_block]; exact Nat.ne_of_lt (Nat.lt_of_lt_of_le zG80 GW284.out)) | (show (Addr.add _ _).block ≠ _; rw [add_block]; exact Nat.ne_of_lt (Nat.lt_of_lt_of_le zG80 GW284.out)) | (dsimp only; exact Nat.ne_of_lt (Nat.lt_of_lt_of_le zG80 GW284.out))) : p := h
theorem zK119 {p : Prop} (h : p := by first | exact Nat.ne_of_lt (Nat.lt_of_lt_of_le zG81 GW284.out) | (rw [add_block]; exact Nat.ne_of_lt (Nat.lt_of_lt_of_le zG81 GW284.out)) | (show (Addr.add _ _).block ≠ _; rw [add_block]; exact Nat.ne_of_lt (Nat.lt_of_lt_of_le zG81 GW284.out)) | (dsimp only; exact Nat.ne_of_lt (Nat.lt_of_lt_of_le zG81 GW284.out))) : p := h
theorem zK120 {p : Prop} (h : p := by first | exact Nat.ne_of_lt (Nat.lt_of_lt_of_le zG77 GW285.out) | (rw [add_block]; exact Nat.ne_of_lt (Nat.lt_of_lt_of_le zG77 GW285.out)) | (show (Addr.add _ _).block ≠ _; rw [add_block]; exact Nat.ne_of_lt (Nat.lt_of_lt_of_le zG77 GW285.out)) | (dsimp only; exact Nat.ne_of_lt (Nat.lt_of_lt_of_le zG77 GW285.out))) : p := h
theorem zK121 {p : Prop} (h : p := by first | exact Nat.ne_of_lt (Nat.lt_of_lt_of_le zG78 GW285.out) | (rw [add_block]; exact Nat.ne_of_lt (Nat.lt_of_lt_of_le zG78 GW285.out)) | (show (Addr.add _ _).block ≠ _; rw [add_block]; exact Nat.ne_of_lt (Nat.lt_of_lt_of_le zG78 GW285.out)) | (dsimp only; exact Nat.ne_of_lt (Nat.lt_of_lt_of_le zG78 GW285.out))) : p := h
theorem zK122 {p : Prop} (h : p := by first | exact Nat.ne_of_lt (Nat.lt_of_lt_of_le zG79 GW285.out) | (rw [add_block]; exact Nat.ne_of_lt (Nat.lt_of_lt_of_le zG79 GW285.out)) | (show (Addr.add _ _).block ≠ _; rw [add_block]; exact Nat.ne_of_lt (Nat.lt_of_lt_of_le zG79 GW285.out)) | (dsimp only; exact Nat.ne_of_lt (Nat.lt_of_lt_of_le zG79 GW285.out))) : p := h
theorem zK123 {p : Prop} (h : p := by first | exact Nat.ne_of_lt (Nat.lt_of_lt_of_le zG80 GW285.out) | (rw [add_block]; exact Nat.ne_of_lt (Nat.lt_of_lt_of_le zG80 GW285.out)) | (show (Addr.add _ _).block ≠ _; rw [add_block]; exact Nat.ne_of_lt (Nat.lt_of_lt_of_le zG80 GW285.out)) | (dsimp only; exact Nat.ne_of_lt (Nat.lt_of_lt_of_le zG80 GW285.out))) : p := h
theorem zK124 {p : Prop} (h : p := by first | exact Nat.ne_of_lt (Nat.lt_of_lt_of_le zG81 GW285.out) | (rw [add_block]; exact Nat.ne_of_lt (Nat.lt_of_lt_of_le zG81 GW285.out)) | (show (Addr.add _ _).block ≠ _; rw [add_block]; exact Nat.ne_of_lt (Nat.lt_of_lt_of_le zG81 GW285.out)) | (dsimp only; exact Nat.ne_of_lt (Nat.lt_of_lt_of_le zG81 GW285.out))) : p := h
theorem zK125 {p : Prop} (h : p := by first | exact HK.out.1 | exact (show Kept w _ (fun k_ => (P0_5_ k_) ∨ k_ = gi0) from by repeat (first | (with_reducible first | exact HK.out | apply Kept.alloc | apply Kept.drewN | apply Kept.drew | refine Kept.setCell ?_ (.inl (Or.inr rfl)) _ | refine Kept.setCell ?_ (.inr GW118.out) _) | exact HK.out)).1) : p := h
theorem zK126 {p : Prop} (h : p := by first | exact HK.out.1 | exact (show Kept w _ (fun k_ => (P0_5_ k_) ∨ k_ = gi0) from by repeat (first | (with_reducible first | exact HK.out | apply Kept.alloc | apply Kept.drewN | apply Kept.drew | refine Kept.setCell ?_ (.inl (Or.inr rfl)) _) | exact HK.out)).1) : p := h
theorem zK127 {p : Prop} (h : p := by repeat (first | (with_reducible first | exact HK.out | apply Kept.alloc | apply Kept.drewN | apply Kept.drew | refine Kept.setCell ?_ (.inl (Or.inr rfl)) _ | refine Kept.setCell ?_ (.inr GW118.out) _ | refine Kept.setCell ?_ (.inr GW119.out) _) | exact HK.out)) : p := h
theorem zK128 {p : Prop} (h : p := by (try simp only [List.map_toArray, List.map_cons, List.map_nil]); first | done | (rw [show t396.length = t378.length from (Kd.R_reads' HO_383005.out).1.symm] <;> rfl) | rfl | (simp only [List.length_drop, List.length_take]; rfl)) : p := h
theorem zK129 {p : Prop} (h : p := by (try simp only [List.map_toArray, List.map_cons, List.map_nil]); first | done | (rw [show t394.length = t370.length from (Kd.R_reads' HO_8.out).1.symm] <;> rfl) | rfl | (simp only [List.length_drop, List.length_take]; rfl)) : p := h
theorem zK130 {p : Prop} (h : p := by repeat (first | (with_reducible first | exact HK.out | apply Kept.alloc | apply Kept.drewN | apply Kept.drew | refine Kept.setCell ?_ (.inl (Or.inr rfl)) _ | refine Kept.setCell ?_ (.inr GW118.out) _) | exact HK.out)) : p := h
theorem zK131 {p : Prop} (h : p := by repeat (first | (with_reducible first | exact HB.out | apply zi | apply zd | apply zh | refine zj ?_ GE262.out | refine zj ?_ GE269.out | refine zj ?_ GE285.out | refine zj ?_ GE284.out) | exact HB.out)) : p := h
theorem zK132 {p : Prop} (h : p := by repeat (first | (with_reducible first | exact HB.out | apply zi | apply zd | apply zh | refine zj ?_ GE262.out | refine zj ?_ GE269.out | refine zj ?_ GE284.out | refine zj ?_ GE285.out) | exact HB.out)) : p := h
theorem zK133 {p : Prop} (h : p := by repeat (first | (with_reducible first | exact HB.out | apply zi | apply zd | apply zh | refine zj ?_ GE136.out | refine zj ?_ GE141.out | refine zj ?_ GE143.out) | exact HB.out)) : p := h
theorem zK134 {p : Prop} (h : p := by repeat (first | (with_reducible first | exact HB.out | apply zi | apply zd | apply zh | refine zj ?_ GE262.out | refine zj ?_ GE269.out | refine zj ?_ GE284.out) | exact HB.out)) : p := h
theorem zK135 {p : Prop} (h : p := by repeat (first | (with_reducible first | exact HB.out | apply zi | apply zd | apply zh | refine zj ?_ GE262.out | refine zj ?_ GE269.out | refine zj ?_ GE285.out) | exact HB.out)) : p := h
theorem zK136 {p : Prop} (h : p := by repeat (first | (with_reducible first | exact HB.out | apply zi | apply zd | apply zh | refine zj ?_ GE366.out | refine zj ?_ GE382.out | refine zj ?_ GE414.out) | exact HB.out)) : p := h
theorem zK137 {p : Prop} (h : p := by repeat (first | (with_reducible first | exact HB.out | apply zi | apply zd | apply zh | refine zj ?_ GE0.out | refine zj ?_ GE118.out | refine zj ?_ GE119.out) | exact HB.out)) : p := h
theorem zK138 {p : Prop} (h : p := by repeat (first | (with_reducible first | exact HK.out | apply Kept.alloc | apply Kept.drewN | apply Kept.drew | refine Kept.setCell ?_ (.inl (Or.inr rfl)) _) | exact HK.out)) : p := h
theorem zK139 {p : Prop} (h : p := by repeat (first | (with_reducible first | exact HB.out | apply zi | apply zd | apply zh | refine zj ?_ GE289.out | refine zj ?_ GE290.out) | exact HB.out)) : p := h
theorem zK140 {p : Prop} (h : p := by repeat (first | (with_reducible first | exact HB.out | apply zi | apply zd | apply zh | refine zj ?_ GE136.out | refine zj ?_ GE141.out) | exact HB.out)) : p := h
theorem zK141 {p : Prop} (h : p := by repeat (first | (with_reducible first | exact HB.out | apply zi | apply zd | apply zh | refine zj ?_ GE312.out | refine zj ?_ GE313.out) | exact HB.out)) : p := h
theorem zK142 {p : Prop} (h : p := by repeat (first | (with_reducible first | exact HB.out | apply zi | apply zd | apply zh | refine zj ?_ GE0.out | refine zj ?_ GE118.out) | exact HB.out)) : p := h
theorem zK143 {p : Prop} (h : p := by repeat (first | (with_reducible first | exact HB.out | apply zi | apply zd | apply zh | refine zj ?_ GE28.out | refine zj ?_ GE29.out) | exact HB.out)) : p := h
theorem zK144 {p : Prop} (h : p := by repeat (first | (with_reducible first | exact HB.out | apply zi | apply zd | apply zh | refine zj ?_ GE0.out | refine zj ?_ GE104.out) | exact HB.out)) : p := h
theorem zK145 {p : Prop} (h : p := by repeat (first | (with_reducible first | exact HB.out | apply zi | apply zd | apply zh | refine zj ?_ GE1.out | refine zj ?_ GE2.out) | exact HB.out)) : p := h
theorem zK146 {p : Prop} (h : p := by repeat (first | (with_reducible first | exact HB.out | apply zi | apply zd | apply zh | refine zj ?_ GE289.out) | exact HB.out)) : p := h
theorem zK147 {p : Prop} (h : p := by repeat (first | (with_reducible first | exact HB.out | apply zi | apply zd | apply zh | refine zj ?_ GE302.out) | exact HB.out)) : p := h
theorem zK148 {p : Prop} (h : p := by repeat (first | (with_reducible first | exact HB.out | apply zi | apply zd | apply zh | refine zj ?_ GE136.out) | exact HB.out)) : p := h
theorem zK149 {p : Prop} (h : p := by repeat (first | (with_reducible first | exact HB.out | apply zi | apply zd | apply zh | refine zj ?_ GE348.out) | exact HB.out)) : p := h
theorem zK150 {p : Prop} (h : p := by repeat (first | (with_reducible first | exact HB.out | apply zi | apply zd | apply zh | refine zj ?_ GE262.out) | exact HB.out)) : p := h
theorem zK151 {p : Prop} (h : p := by repeat (first | (with_reducible first | exact HB.out | apply zi | apply zd | apply zh | refine zj ?_ GE366.out) | exact HB.out)) : p := h
theorem zK152 {p : Prop} (h : p := by repeat (first | (with_reducible first | exact HB.out | apply zi | apply zd | apply zh | refine zj ?_ GE0.out) | exact HB.out)) : p := h
theorem zK153 {p : Prop} (h : p := by (with_reducible repeat (first | refine zf ?_ _ | refine zg ?_ | refine ze ?_ _)); exact BK118.out) : p := h
theorem zK154 {p : Prop} (h : p := by (with_reducible repeat (first | refine zf ?_ _ | refine zg ?_ | refine ze ?_ _)); exact BK119.out) : p := h
theorem zK155 {p : Prop} (h : p := by (with_reducible repeat (first | refine zf ?_ _ | refine zg ?_ | refine ze ?_ _)); exact BK289.out) : p := h
theorem zK156 {p : Prop} (h : p := by (with_reducible repeat (first | refine zf ?_ _ | refine zg ?_ | refine ze ?_ _)); exact BK290.out) : p := h
theorem zK157 {p : Prop} (h : p := by (with_reducible repeat (first | refine zf ?_ _ | refine zg ?_ | refine ze ?_ _)); exact BK302.out) : p := h
theorem zK158 {p : Prop} (h : p := by (with_reducible repeat (first | refine zf ?_ _ | refine zg ?_ | refine ze ?_ _)); exact BK136.out) : p := h
theorem zK159 {p : Prop} (h : p := by (with_reducible repeat (first | refine zf ?_ _ | refine zg ?_ | refine ze ?_ _)); exact BK141.out) : p := h
theorem zK160 {p : Prop} (h : p := by (with_reducible repeat (first | refine zf ?_ _ | refine zg ?_ | refine ze ?_ _)); exact BK104.out) : p := h
theorem zK161 {p : Prop} (h : p := by (with_reducible repeat (first | refine zf ?_ _ | refine zg ?_ | refine ze ?_ _)); exact BK414.out) : p := h
theorem zK162 {p : Prop} (h : p := by (with_reducible repeat (first | refine zf ?_ _ | refine zg ?_ | refine ze ?_ _)); exact BK1.out) : p := h
theorem zK163 {p : Prop} (h : p := by (with_reducible repeat (first | refine zf ?_ _ | refine zg ?_ | refine ze ?_ _)); exact BK2.out) : p := h
theorem zK164 {p : Prop} (h : p := by (with_reducible repeat (first | apply zk | apply zl | apply zn)); exact HO_270005.out) : p := h
theorem zK165 {p : Prop} (h : p := by (with_reducible repeat (first | apply zk | apply zl | apply zn)); exact HO_415005.out) : p := h
theorem zK166 {p : Prop} (h : p := by (try simp only [List.map_toArray, List.map_cons, List.map_nil]); first | done | rfl) : p := h
theorem zK167 {p : Prop} (h : p := by (with_reducible repeat (first | apply zk | apply zl | apply zn)); exact HO0_5.out) : p := h
theorem zK168 {p : Prop} (h : p := by (with_reducible repeat (first | apply zk | apply zl | apply zn)); exact HO281.out) : p := h
theorem zK169 {p : Prop} (h : p := by (with_reducible repeat (first | apply zk | apply zl | apply zn)); exact HO353.out) : p := h
theorem zK170 {p : Prop} (h : p := by (with_reducible repeat (first | apply zk | apply zl | apply zn)); exact HO356.out) : p := h
theorem zK171 {p : Prop} (h : p := by (with_reducible repeat (first | apply zk | apply zl | apply zn)); exact HO364.out) : p := h
theorem zK172 {p : Prop} (h : p := by (with_reducible repeat (first | apply zk | apply zl | apply zn)); exact HO369.out) : p := h
theorem zK173 {p : Prop} (h : p := by (with_reducible repeat (first | apply zk | apply zl | apply zn)); exact HO372.out) : p := h
theorem zK174 {p : Prop} (h : p := by (with_reducible repeat (first | apply zk | apply zl | apply zn)); exact HO380.out) : p := h
theorem zK175 {p : Prop} (h : p := by (with_reducible repeat (first | apply zk | apply zl | apply zn)); exact HO387.out) : p := h
theorem zK176 {p : Prop} (h : p := by (with_reducible repeat (first | apply zk | apply zl | apply zn)); exact HO401.out) : p := h
theorem zK177 {p : Prop} (h : p := by (with_reducible repeat (first | apply zk | apply zl | apply zn)); exact HO404.out) : p := h
theorem zK178 {p : Prop} (h : p := by (with_reducible repeat (first | apply zk | apply zl | apply zn)); exact HO412.out) : p := h
theorem zK179 {p : Prop} (h : p := by (with_reducible repeat (first | apply zk | apply zl | apply zn)); exact HO_0.out) : p := h
theorem zK180 {p : Prop} (h : p := by (with_reducible repeat (first | apply zk | apply zl | apply zn)); exact HO_7.out) : p := h
end Go.Proofs.Ytnkceaibkfbeaaa.E
