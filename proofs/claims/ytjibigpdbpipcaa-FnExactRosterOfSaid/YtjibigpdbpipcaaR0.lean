-- squeezed
-- made by pp.py (wip/tools) out of the translation; Lean checks it
import Derived.Test.YtjibigpdbpipcaaProg
import Derived.Below
import Derived.Deep.Draws
import Derived.Deep.AppendLies
import Derived.Maps.AppendAt
import Derived.OwnWalk
import Derived.Laws.BytesArg
import Derived.Laws.MakeOwn
import Derived.Laws.OwnMore
import Derived.Deep.OwnRows
import Derived.Tactics
import Derived.Lib.ConvBytes
import Derived.Laws.Slices
import Derived.WalkKit
import Derived.KernelRfl
import Derived.RowKit3
import Derived.Deep.LoopGhost
import Derived.Deep.QuietTactic
import Derived.BigQuiet
import Derived.WideLaws
import Derived.Deep.DeepCutAuto
import Derived.Deep.CutBlock
import Derived.Deep.RegionHeld3
import Derived.Laws.Rows
import Derived.Lib.AppendStr
import Derived.ArgAppend
import Derived.Laws.IdiomCopy
import Derived.OrdersHeld
import Derived.Laws.BitsLemmas
import Derived.RowKit
import Derived.Test.YtjibigpdbpipcaaFloat
import Derived.Test.YtjibigpdbpipcaaWWords
import Derived.Test.YtjibigpdbpipcaaWLast
import Derived.Test.YtjibigpdbpipcaaWTab
import Derived.Test.YtjibigpdbpipcaaWFour
import Derived.Test.YtjibigpdbpipcaaWQPut
import Derived.Test.YtjibigpdbpipcaaWApart
import Derived.Test.YtjibigpdbpipcaaWArr
import Derived.Test.YtjibigpdbpipcaaWZeros
import Derived.Test.YtjibigpdbpipcaaWFoot
import Derived.Test.YtjibigpdbpipcaaWKept
import Derived.Test.YtjibigpdbpipcaaWShare
import Derived.Test.YtjibigpdbpipcaaWN
import Derived.Test.YtjibigpdbpipcaaWFootNe
import Derived.Test.YtjibigpdbpipcaaWAt
import Derived.Test.YtjibigpdbpipcaaWEqStruct
import Derived.Test.YtjibigpdbpipcaaWRepsOne
import Derived.Test.YtjibigpdbpipcaaWInv
import Derived.Test.YtjibigpdbpipcaaWInvWords
import Derived.Test.YtjibigpdbpipcaaWGuard
import Derived.Test.YtjibigpdbpipcaaWNEv
import Derived.Test.YtjibigpdbpipcaaWMore
namespace Go.Proofs.Ytjibigpdbpipcaa.R
open Go.RowKit Go.Proofs.YtjibigpdbpipcaaW.PrintWords Go.Proofs.YtjibigpdbpipcaaW.PrintLast Go.Proofs.YtjibigpdbpipcaaW.PrintMore
attribute [local go_sem] max2_int min2_int max_two min_two max_three min_three max_four min_four   -- for this text's walks alone
set_option linter.unusedVariables false
set_option linter.unusedSimpArgs false



abbrev q0a := @Kd.C_get
def errW : Option Int → Value
 | none => .nilIface
 | some c => .iface 0 (.int .i64 c)
theorem errW_none : errW none = .nilIface := rfl
theorem errW_some (c : Int) : errW (some c) = .iface 0 (.int .i64 c) := rfl

theorem info3 : (Try.prog.info? 3).map (fun i => (i.zero, i.size, i.bytes)) = some (some (.int .i64 0), 1, 8) := by kernel_rfl
theorem info5 : (Try.prog.info? 5).map (fun i => (i.zero, i.size, i.bytes)) = some (some (.int .u8 0), 1, 1) := by kernel_rfl
theorem info9 : (Try.prog.info? 9).map (fun i => (i.zero, i.size, i.bytes)) = some (some (.string ⟨#[]⟩), 1, 16) := by kernel_rfl
theorem info98 : (Try.prog.info? 98).map (fun i => (i.zero, i.size, i.bytes)) = some (some (.agg #[(.int .i64 0), (.int .i64 0), (.string ⟨#[]⟩)]), 3, 32) := by kernel_rfl
theorem info100 : (Try.prog.info? 100).map (fun i => (i.zero, i.size, i.bytes)) = some (some (.agg #[(.string ⟨#[]⟩), (.int .i64 0), (.int .i64 0), (.int .i64 0), (.slice none 0 0)]), 5, 64) := by kernel_rfl
-- the values' own types
/-! #### struct type 90 -/
structure S90 where
 f0 : Int
 f1 : Int
 f2 : ByteArray
def z90 : S90 := ⟨(0 : Int), (0 : Int), (⟨#[]⟩ : ByteArray)⟩
def k90 : Kd S90 := Kd.iso (Kd.pair (Kd.int .i64) (Kd.pair (Kd.int .i64) Kd.string)) (fun x : S90 => (x.f0, x.f1, x.f2))
theorem k90_open {w : World} {x : S90} {cs : List Value} (h : k90.K w x cs) : cs = [.int .i64 x.f0, .int .i64 x.f1, .string x.f2] := by
 obtain ⟨_, _, rfl, rfl, ⟨_, _, rfl, rfl, rfl⟩⟩ := h
 exact rfl
theorem k90_openM {w : World} {base : Nat} {ok : Nat → Prop} {x : S90} {cs : List Value} (h : k90.M w base ok x cs) : cs = [.int .i64 x.f0, .int .i64 x.f1, .string x.f2] := by
 obtain ⟨_, _, rfl, rfl, ⟨_, _, rfl, rfl, rfl⟩⟩ := h
 exact rfl
theorem k90_mk (w : World) (x : S90)  : k90.K w x [.int .i64 x.f0, .int .i64 x.f1, .string x.f2] := ⟨[.int .i64 x.f0], [.int .i64 x.f1, .string x.f2], rfl, rfl, ⟨[.int .i64 x.f1], [.string x.f2], rfl, rfl, rfl⟩⟩
theorem k90_mkM (w : World) (base : Nat) (ok : Nat → Prop) (x : S90)  : k90.M w base ok x [.int .i64 x.f0, .int .i64 x.f1, .string x.f2] := ⟨[.int .i64 x.f0], [.int .i64 x.f1, .string x.f2], rfl, rfl, ⟨[.int .i64 x.f1], [.string x.f2], rfl, rfl, rfl⟩⟩
def rd_T90 (xs : List S90) (i : Int) : S90 := xs.getD i.toNat z90
theorem at_T90 {w : World} {A : Option Addr} {n : Nat} {xs : List S90} (h : Kd.C k90 w A n xs) (i : Int) (h0 : 0 ≤ i) (h1 : i < n) : ∃ ad , A = some ad ∧ w.cell? (ad.add (i.toNat * 3)) = some (.int .i64 (rd_T90 xs i).f0) ∧ w.cell? ⟨(ad.add (i.toNat * 3)).block, (ad.add (i.toNat * 3)).off + 1, none⟩ = some (.int .i64 (rd_T90 xs i).f1) ∧ w.cell? ⟨(ad.add (i.toNat * 3)).block, (ad.add (i.toNat * 3)).off + 2, none⟩ = some (.string (rd_T90 xs i).f2) := by
 obtain ⟨ad, c, e, _, hK, hc0⟩ := q0a h z90 i h0 h1
 have hc : ∀ j u, c[j]? = some u → w.cell? (ad.add (i.toNat * 3 + j)) = some u := hc0
 obtain rfl := k90_open hK
 exact ⟨ad, e, hc 0 _ rfl, by rw [← add_field _ _ 1 (by omega)]; exact hc 1 _ rfl, by rw [← add_field _ _ 2 (by omega)]; exact hc 2 _ rfl⟩

def rd_L3 (xs : List (List ByteArray)) (i : Int) : (List ByteArray) := xs.getD i.toNat ([] : List ByteArray)
theorem at_L3 {w : World} {A : Option Addr} {n : Nat} {xs : List (List ByteArray)} (h : Kd.C (Kd.slice 9 Kd.string) w A n xs) (i : Int) (h0 : 0 ≤ i) (h1 : i < n) : ∃ ad A0 c0, A = some ad ∧ w.cell? (ad.add i.toNat) = some (.slice A0 (rd_L3 xs i).length c0) ∧ (rd_L3 xs i).length ≤ c0 ∧ Kd.string.C w A0 (rd_L3 xs i).length (rd_L3 xs i) := by
 obtain ⟨ad, c, e, _, hK, hc0⟩ := q0a h ([] : List ByteArray) i h0 h1
 have hc : ∀ j u, c[j]? = some u → w.cell? (ad.add (i.toNat * 1 + j)) = some u := hc0
 obtain ⟨A0, c0, rfl, l0, g0⟩ := hK
 exact ⟨ad, A0, c0, e, by have hq := hc 0 _ rfl; rwa [Nat.mul_one, Nat.add_zero] at hq, l0, g0⟩

/-! #### struct type 94 -/
structure S94 where
 f0 : ByteArray
 f1 : Int
 f2 : Int
 f3 : Int
 f4 : (List ByteArray)
def z94 : S94 := ⟨(⟨#[]⟩ : ByteArray), (0 : Int), (0 : Int), (0 : Int), ([] : List ByteArray)⟩
def k94 : Kd S94 := Kd.iso (Kd.pair Kd.string (Kd.pair (Kd.int .i64) (Kd.pair (Kd.int .i64) (Kd.pair (Kd.int .i64) (Kd.slice 9 Kd.string))))) (fun x : S94 => (x.f0, x.f1, x.f2, x.f3, x.f4))
theorem k94_open {w : World} {x : S94} {cs : List Value} (h : k94.K w x cs) : ∃ A4 c4, cs = [.string x.f0, .int .i64 x.f1, .int .i64 x.f2, .int .i64 x.f3, .slice A4 x.f4.length c4] ∧ x.f4.length ≤ c4 ∧ Kd.string.C w A4 x.f4.length x.f4 := by
 obtain ⟨_, _, rfl, rfl, ⟨_, _, rfl, rfl, ⟨_, _, rfl, rfl, ⟨_, _, rfl, rfl, ⟨A4, c4, rfl, l4, g4⟩⟩⟩⟩⟩ := h
 exact ⟨A4, c4, rfl, l4, g4⟩
theorem k94_openM {w : World} {base : Nat} {ok : Nat → Prop} {x : S94} {cs : List Value} (h : k94.M w base ok x cs) : ∃ v4, cs = [.string x.f0, .int .i64 x.f1, .int .i64 x.f2, .int .i64 x.f3, v4] ∧ Kd.string.R 9 w base ok v4 x.f4 := by
 obtain ⟨_, _, rfl, rfl, ⟨_, _, rfl, rfl, ⟨_, _, rfl, rfl, ⟨_, _, rfl, rfl, ⟨v4, rfl, g4⟩⟩⟩⟩⟩ := h
 exact ⟨v4, rfl, g4⟩
theorem k94_mk (w : World) (x : S94) {A4 : Option Addr} {c4 : Nat} (l4 : x.f4.length ≤ c4) (g4 : Kd.string.C w A4 x.f4.length x.f4) : k94.K w x [.string x.f0, .int .i64 x.f1, .int .i64 x.f2, .int .i64 x.f3, .slice A4 x.f4.length c4] := ⟨[.string x.f0], [.int .i64 x.f1, .int .i64 x.f2, .int .i64 x.f3, .slice A4 x.f4.length c4], rfl, rfl, ⟨[.int .i64 x.f1], [.int .i64 x.f2, .int .i64 x.f3, .slice A4 x.f4.length c4], rfl, rfl, ⟨[.int .i64 x.f2], [.int .i64 x.f3, .slice A4 x.f4.length c4], rfl, rfl, ⟨[.int .i64 x.f3], [.slice A4 x.f4.length c4], rfl, rfl, ⟨A4, c4, rfl, l4, g4⟩⟩⟩⟩⟩
theorem k94_mkM (w : World) (base : Nat) (ok : Nat → Prop) (x : S94) {v4 : Value} (g4 : Kd.string.R 9 w base ok v4 x.f4) : k94.M w base ok x [.string x.f0, .int .i64 x.f1, .int .i64 x.f2, .int .i64 x.f3, v4] := ⟨[.string x.f0], [.int .i64 x.f1, .int .i64 x.f2, .int .i64 x.f3, v4], rfl, rfl, ⟨[.int .i64 x.f1], [.int .i64 x.f2, .int .i64 x.f3, v4], rfl, rfl, ⟨[.int .i64 x.f2], [.int .i64 x.f3, v4], rfl, rfl, ⟨[.int .i64 x.f3], [v4], rfl, rfl, ⟨v4, rfl, g4⟩⟩⟩⟩⟩
def rd_T94 (xs : List S94) (i : Int) : S94 := xs.getD i.toNat z94
theorem at_T94 {w : World} {A : Option Addr} {n : Nat} {xs : List S94} (h : Kd.C k94 w A n xs) (i : Int) (h0 : 0 ≤ i) (h1 : i < n) : ∃ ad A4 c4, A = some ad ∧ w.cell? (ad.add (i.toNat * 5)) = some (.string (rd_T94 xs i).f0) ∧ w.cell? ⟨(ad.add (i.toNat * 5)).block, (ad.add (i.toNat * 5)).off + 1, none⟩ = some (.int .i64 (rd_T94 xs i).f1) ∧ w.cell? ⟨(ad.add (i.toNat * 5)).block, (ad.add (i.toNat * 5)).off + 2, none⟩ = some (.int .i64 (rd_T94 xs i).f2) ∧ w.cell? ⟨(ad.add (i.toNat * 5)).block, (ad.add (i.toNat * 5)).off + 3, none⟩ = some (.int .i64 (rd_T94 xs i).f3) ∧ w.cell? ⟨(ad.add (i.toNat * 5)).block, (ad.add (i.toNat * 5)).off + 4, none⟩ = some (.slice A4 (rd_T94 xs i).f4.length c4) ∧ (rd_T94 xs i).f4.length ≤ c4 ∧ Kd.string.C w A4 (rd_T94 xs i).f4.length (rd_T94 xs i).f4 := by
 obtain ⟨ad, c, e, _, hK, hc0⟩ := q0a h z94 i h0 h1
 have hc : ∀ j u, c[j]? = some u → w.cell? (ad.add (i.toNat * 5 + j)) = some u := hc0
 obtain ⟨A4, c4, rfl, l4, g4⟩ := k94_open hK
 exact ⟨ad, A4, c4, e, hc 0 _ rfl, by rw [← add_field _ _ 1 (by omega)]; exact hc 1 _ rfl, by rw [← add_field _ _ 2 (by omega)]; exact hc 2 _ rfl, by rw [← add_field _ _ 3 (by omega)]; exact hc 3 _ rfl, by rw [← add_field _ _ 4 (by omega)]; exact hc 4 _ rfl, l4, g4⟩

/-! #### struct type 98 -/
structure S98 where
 f0 : Int
 f1 : Int
 f2 : ByteArray
def z98 : S98 := ⟨(0 : Int), (0 : Int), (⟨#[]⟩ : ByteArray)⟩
def k98 : Kd S98 := Kd.iso (Kd.pair (Kd.int .i64) (Kd.pair (Kd.int .i64) Kd.string)) (fun x : S98 => (x.f0, x.f1, x.f2))
theorem k98_open {w : World} {x : S98} {cs : List Value} (h : k98.K w x cs) : cs = [.int .i64 x.f0, .int .i64 x.f1, .string x.f2] := by
 obtain ⟨_, _, rfl, rfl, ⟨_, _, rfl, rfl, rfl⟩⟩ := h
 exact rfl
theorem k98_openM {w : World} {base : Nat} {ok : Nat → Prop} {x : S98} {cs : List Value} (h : k98.M w base ok x cs) : cs = [.int .i64 x.f0, .int .i64 x.f1, .string x.f2] := by
 obtain ⟨_, _, rfl, rfl, ⟨_, _, rfl, rfl, rfl⟩⟩ := h
 exact rfl
theorem k98_mk (w : World) (x : S98)  : k98.K w x [.int .i64 x.f0, .int .i64 x.f1, .string x.f2] := ⟨[.int .i64 x.f0], [.int .i64 x.f1, .string x.f2], rfl, rfl, ⟨[.int .i64 x.f1], [.string x.f2], rfl, rfl, rfl⟩⟩
theorem k98_mkM (w : World) (base : Nat) (ok : Nat → Prop) (x : S98)  : k98.M w base ok x [.int .i64 x.f0, .int .i64 x.f1, .string x.f2] := ⟨[.int .i64 x.f0], [.int .i64 x.f1, .string x.f2], rfl, rfl, ⟨[.int .i64 x.f1], [.string x.f2], rfl, rfl, rfl⟩⟩
def rd_T98 (xs : List S98) (i : Int) : S98 := xs.getD i.toNat z98
theorem at_T98 {w : World} {A : Option Addr} {n : Nat} {xs : List S98} (h : Kd.C k98 w A n xs) (i : Int) (h0 : 0 ≤ i) (h1 : i < n) : ∃ ad , A = some ad ∧ w.cell? (ad.add (i.toNat * 3)) = some (.int .i64 (rd_T98 xs i).f0) ∧ w.cell? ⟨(ad.add (i.toNat * 3)).block, (ad.add (i.toNat * 3)).off + 1, none⟩ = some (.int .i64 (rd_T98 xs i).f1) ∧ w.cell? ⟨(ad.add (i.toNat * 3)).block, (ad.add (i.toNat * 3)).off + 2, none⟩ = some (.string (rd_T98 xs i).f2) := by
 obtain ⟨ad, c, e, _, hK, hc0⟩ := q0a h z98 i h0 h1
 have hc : ∀ j u, c[j]? = some u → w.cell? (ad.add (i.toNat * 3 + j)) = some u := hc0
 obtain rfl := k98_open hK
 exact ⟨ad, e, hc 0 _ rfl, by rw [← add_field _ _ 1 (by omega)]; exact hc 1 _ rfl, by rw [← add_field _ _ 2 (by omega)]; exact hc 2 _ rfl⟩

/-! #### struct type 100 -/
structure S100 where
 f0 : ByteArray
 f1 : Int
 f2 : Int
 f3 : Int
 f4 : (List ByteArray)
def z100 : S100 := ⟨(⟨#[]⟩ : ByteArray), (0 : Int), (0 : Int), (0 : Int), ([] : List ByteArray)⟩
def k100 : Kd S100 := Kd.iso (Kd.pair Kd.string (Kd.pair (Kd.int .i64) (Kd.pair (Kd.int .i64) (Kd.pair (Kd.int .i64) (Kd.slice 9 Kd.string))))) (fun x : S100 => (x.f0, x.f1, x.f2, x.f3, x.f4))
theorem k100_open {w : World} {x : S100} {cs : List Value} (h : k100.K w x cs) : ∃ A4 c4, cs = [.string x.f0, .int .i64 x.f1, .int .i64 x.f2, .int .i64 x.f3, .slice A4 x.f4.length c4] ∧ x.f4.length ≤ c4 ∧ Kd.string.C w A4 x.f4.length x.f4 := by
 obtain ⟨_, _, rfl, rfl, ⟨_, _, rfl, rfl, ⟨_, _, rfl, rfl, ⟨_, _, rfl, rfl, ⟨A4, c4, rfl, l4, g4⟩⟩⟩⟩⟩ := h
 exact ⟨A4, c4, rfl, l4, g4⟩
theorem k100_openM {w : World} {base : Nat} {ok : Nat → Prop} {x : S100} {cs : List Value} (h : k100.M w base ok x cs) : ∃ v4, cs = [.string x.f0, .int .i64 x.f1, .int .i64 x.f2, .int .i64 x.f3, v4] ∧ Kd.string.R 9 w base ok v4 x.f4 := by
 obtain ⟨_, _, rfl, rfl, ⟨_, _, rfl, rfl, ⟨_, _, rfl, rfl, ⟨_, _, rfl, rfl, ⟨v4, rfl, g4⟩⟩⟩⟩⟩ := h
 exact ⟨v4, rfl, g4⟩
theorem k100_mk (w : World) (x : S100) {A4 : Option Addr} {c4 : Nat} (l4 : x.f4.length ≤ c4) (g4 : Kd.string.C w A4 x.f4.length x.f4) : k100.K w x [.string x.f0, .int .i64 x.f1, .int .i64 x.f2, .int .i64 x.f3, .slice A4 x.f4.length c4] := ⟨[.string x.f0], [.int .i64 x.f1, .int .i64 x.f2, .int .i64 x.f3, .slice A4 x.f4.length c4], rfl, rfl, ⟨[.int .i64 x.f1], [.int .i64 x.f2, .int .i64 x.f3, .slice A4 x.f4.length c4], rfl, rfl, ⟨[.int .i64 x.f2], [.int .i64 x.f3, .slice A4 x.f4.length c4], rfl, rfl, ⟨[.int .i64 x.f3], [.slice A4 x.f4.length c4], rfl, rfl, ⟨A4, c4, rfl, l4, g4⟩⟩⟩⟩⟩
theorem k100_mkM (w : World) (base : Nat) (ok : Nat → Prop) (x : S100) {v4 : Value} (g4 : Kd.string.R 9 w base ok v4 x.f4) : k100.M w base ok x [.string x.f0, .int .i64 x.f1, .int .i64 x.f2, .int .i64 x.f3, v4] := ⟨[.string x.f0], [.int .i64 x.f1, .int .i64 x.f2, .int .i64 x.f3, v4], rfl, rfl, ⟨[.int .i64 x.f1], [.int .i64 x.f2, .int .i64 x.f3, v4], rfl, rfl, ⟨[.int .i64 x.f2], [.int .i64 x.f3, v4], rfl, rfl, ⟨[.int .i64 x.f3], [v4], rfl, rfl, ⟨v4, rfl, g4⟩⟩⟩⟩⟩
def rd_T100 (xs : List S100) (i : Int) : S100 := xs.getD i.toNat z100
theorem at_T100 {w : World} {A : Option Addr} {n : Nat} {xs : List S100} (h : Kd.C k100 w A n xs) (i : Int) (h0 : 0 ≤ i) (h1 : i < n) : ∃ ad A4 c4, A = some ad ∧ w.cell? (ad.add (i.toNat * 5)) = some (.string (rd_T100 xs i).f0) ∧ w.cell? ⟨(ad.add (i.toNat * 5)).block, (ad.add (i.toNat * 5)).off + 1, none⟩ = some (.int .i64 (rd_T100 xs i).f1) ∧ w.cell? ⟨(ad.add (i.toNat * 5)).block, (ad.add (i.toNat * 5)).off + 2, none⟩ = some (.int .i64 (rd_T100 xs i).f2) ∧ w.cell? ⟨(ad.add (i.toNat * 5)).block, (ad.add (i.toNat * 5)).off + 3, none⟩ = some (.int .i64 (rd_T100 xs i).f3) ∧ w.cell? ⟨(ad.add (i.toNat * 5)).block, (ad.add (i.toNat * 5)).off + 4, none⟩ = some (.slice A4 (rd_T100 xs i).f4.length c4) ∧ (rd_T100 xs i).f4.length ≤ c4 ∧ Kd.string.C w A4 (rd_T100 xs i).f4.length (rd_T100 xs i).f4 := by
 obtain ⟨ad, c, e, _, hK, hc0⟩ := q0a h z100 i h0 h1
 have hc : ∀ j u, c[j]? = some u → w.cell? (ad.add (i.toNat * 5 + j)) = some u := hc0
 obtain ⟨A4, c4, rfl, l4, g4⟩ := k100_open hK
 exact ⟨ad, A4, c4, e, hc 0 _ rfl, by rw [← add_field _ _ 1 (by omega)]; exact hc 1 _ rfl, by rw [← add_field _ _ 2 (by omega)]; exact hc 2 _ rfl, by rw [← add_field _ _ 3 (by omega)]; exact hc 3 _ rfl, by rw [← add_field _ _ 4 (by omega)]; exact hc 4 _ rfl, l4, g4⟩

def rd_L8 (xs : List (List S100)) (i : Int) : (List S100) := xs.getD i.toNat ([] : List S100)
theorem at_L8 {w : World} {A : Option Addr} {n : Nat} {xs : List (List S100)} (h : Kd.C (Kd.slice 100 k100) w A n xs) (i : Int) (h0 : 0 ≤ i) (h1 : i < n) : ∃ ad A0 c0, A = some ad ∧ w.cell? (ad.add i.toNat) = some (.slice A0 (rd_L8 xs i).length c0) ∧ (rd_L8 xs i).length ≤ c0 ∧ k100.C w A0 (rd_L8 xs i).length (rd_L8 xs i) := by
 obtain ⟨ad, c, e, _, hK, hc0⟩ := q0a h ([] : List S100) i h0 h1
 have hc : ∀ j u, c[j]? = some u → w.cell? (ad.add (i.toNat * 1 + j)) = some u := hc0
 obtain ⟨A0, c0, rfl, l0, g0⟩ := hK
 exact ⟨ad, A0, c0, e, by have hq := hc 0 _ rfl; rwa [Nat.mul_one, Nat.add_zero] at hq, l0, g0⟩

def rd_L9 (xs : List (List S90)) (i : Int) : (List S90) := xs.getD i.toNat ([] : List S90)
theorem at_L9 {w : World} {A : Option Addr} {n : Nat} {xs : List (List S90)} (h : Kd.C (Kd.slice 90 k90) w A n xs) (i : Int) (h0 : 0 ≤ i) (h1 : i < n) : ∃ ad A0 c0, A = some ad ∧ w.cell? (ad.add i.toNat) = some (.slice A0 (rd_L9 xs i).length c0) ∧ (rd_L9 xs i).length ≤ c0 ∧ k90.C w A0 (rd_L9 xs i).length (rd_L9 xs i) := by
 obtain ⟨ad, c, e, _, hK, hc0⟩ := q0a h ([] : List S90) i h0 h1
 have hc : ∀ j u, c[j]? = some u → w.cell? (ad.add (i.toNat * 1 + j)) = some u := hc0
 obtain ⟨A0, c0, rfl, l0, g0⟩ := hK
 exact ⟨ad, A0, c0, e, by have hq := hc 0 _ rfl; rwa [Nat.mul_one, Nat.add_zero] at hq, l0, g0⟩

def rd_L10 (xs : List (List S94)) (i : Int) : (List S94) := xs.getD i.toNat ([] : List S94)
theorem at_L10 {w : World} {A : Option Addr} {n : Nat} {xs : List (List S94)} (h : Kd.C (Kd.slice 94 k94) w A n xs) (i : Int) (h0 : 0 ≤ i) (h1 : i < n) : ∃ ad A0 c0, A = some ad ∧ w.cell? (ad.add i.toNat) = some (.slice A0 (rd_L10 xs i).length c0) ∧ (rd_L10 xs i).length ≤ c0 ∧ k94.C w A0 (rd_L10 xs i).length (rd_L10 xs i) := by
 obtain ⟨ad, c, e, _, hK, hc0⟩ := q0a h ([] : List S94) i h0 h1
 have hc : ∀ j u, c[j]? = some u → w.cell? (ad.add (i.toNat * 1 + j)) = some u := hc0
 obtain ⟨A0, c0, rfl, l0, g0⟩ := hK
 exact ⟨ad, A0, c0, e, by have hq := hc 0 _ rfl; rwa [Nat.mul_one, Nat.add_zero] at hq, l0, g0⟩

def rd_L11 (xs : List (List Int)) (i : Int) : (List Int) := xs.getD i.toNat ([] : List Int)
theorem at_L11 {w : World} {A : Option Addr} {n : Nat} {xs : List (List Int)} (h : Kd.C (Kd.slice 3 (Kd.int .i64)) w A n xs) (i : Int) (h0 : 0 ≤ i) (h1 : i < n) : ∃ ad A0 c0, A = some ad ∧ w.cell? (ad.add i.toNat) = some (.slice A0 (rd_L11 xs i).length c0) ∧ (rd_L11 xs i).length ≤ c0 ∧ (Kd.int .i64).C w A0 (rd_L11 xs i).length (rd_L11 xs i) := by
 obtain ⟨ad, c, e, _, hK, hc0⟩ := q0a h ([] : List Int) i h0 h1
 have hc : ∀ j u, c[j]? = some u → w.cell? (ad.add (i.toNat * 1 + j)) = some u := hc0
 obtain ⟨A0, c0, rfl, l0, g0⟩ := hK
 exact ⟨ad, A0, c0, e, by have hq := hc 0 _ rfl; rwa [Nat.mul_one, Nat.add_zero] at hq, l0, g0⟩

-- aliases
theorem zO {p : Prop} [Decidable p] (h : decide p = true := by first | (with_reducible assumption) | assumption) : p := of_decide_eq_true h
abbrev za := @World.block_lt_of_cell?
abbrev zb := @Aside0.mk
abbrev zc := @pw_below_drewN
abbrev zd := @below_drew1
abbrev ze := @below_alloc
abbrev zf := @blk_frozen
abbrev zg := @blk_cell
abbrev zh := @below_set
abbrev zi := @blk_drewN
abbrev zj := @blk_alloc
abbrev zk := @blk_drew
abbrev zl := @Kd.R_alloc
abbrev zm := @Kd.R_drewN
abbrev zn := @Kd.R_drew
abbrev zo := @below_size
abbrev zp := @Kd.R_below
abbrev zq := @below_step
abbrev zr := @Kd.C_alloc
abbrev zs := @Kd.C_drewN
abbrev zt := @Kd.C_drew
abbrev zu := @blk_below
abbrev zv := @Kd.R_far
abbrev zw := @Kd.C_below
abbrev zx := @Kd.R_mono
abbrev zy := @blk_put
abbrev zz := @Kd.S_alloc
abbrev zaa := @Kd.S_drewN
abbrev zab := @Kd.R_types
abbrev zac := @Kd.S_drew
abbrev zad := @Kd.S_below
abbrev zae := @blk_lt
abbrev zaf := @blk_far
abbrev zag := @Kd.R_lower
abbrev zah := @Kd.R_slice
abbrev zai := @Kd.R_elder'
abbrev zaj := @Kd.at_int
abbrev zak := @Kd.S_reads'
abbrev zal := @Kd.R_base
abbrev zam := @Kd.at_string
abbrev zan := @Kd.R_new'
abbrev zao := @Kd.R_keptB
abbrev zap := @Kd.S_far
abbrev zaq := @Kd.R_lt
abbrev zar := @Kd.S_mono
abbrev zas := @Kd.R_typed
abbrev zat := @Kd.R_tight
abbrev zau := @Kd.R_reok
abbrev zav := @blk_kept
abbrev zaw := @Kd.S_types
abbrev zax := @Kd.R_nil
abbrev zay := @Kd.R_ne
abbrev zaz := @Kd.R_apart'
abbrev zba := @Kd.R_elem
abbrev zbb := @Kd.N_nil
abbrev zbc := @Kd.V_nil
abbrev zbd := @Kd.Q_nil
abbrev zbe := @Kd.S_nil
abbrev zbf := @Kd.S_lower
abbrev zbg := @Kd.S_slice
abbrev zbh := @Kd.S_elder'
abbrev zbi := @Kd.R_form
abbrev zbj := @Kept.of_grown
abbrev zbk := @Kd.C_of_reads
abbrev zbl := @Kd.reads_of_C
theorem zG64 {p : Prop} (h : p := by repeat (first | (with_reducible first | exact HB.out | apply ze | apply zc | apply zd | refine zh ?_ GE315.out | refine zh ?_ GE331.out) | exact HB.out)) : p := h
theorem zG65 {p : Prop} (h : p := by (try simp only [List.map_toArray, List.map_cons, List.map_nil]); first | done | rfl | (simp only [List.length_drop, List.length_take]; rfl)) : p := h
theorem zG66 {p : Prop} (h : p := by repeat (first | (with_reducible first | exact HB.out | apply ze | apply zc | apply zd | refine zh ?_ GE256.out) | exact HB.out)) : p := h
theorem zG67 {p : Prop} (h : p := by repeat (first | (with_reducible first | exact HB.out | apply ze | apply zc | apply zd | refine zh ?_ GE272.out) | exact HB.out)) : p := h
theorem zG68 {p : Prop} (h : p := by repeat (first | (with_reducible first | exact HB.out | apply ze | apply zc | apply zd | refine zh ?_ GE150.out) | exact HB.out)) : p := h
theorem zG69 {p : Prop} (h : p := by repeat (first | (with_reducible first | exact HB.out | apply ze | apply zc | apply zd | refine zh ?_ GE315.out) | exact HB.out)) : p := h
theorem zG70 {p : Prop} (h : p := by repeat (first | (with_reducible first | exact HB.out | apply ze | apply zc | apply zd | refine zh ?_ GE279.out) | exact HB.out)) : p := h
theorem zG71 {p : Prop} (h : p := by first | (rw [add_block]; exact hn136_0) | (show (Addr.add _ _).block ≠ _; rw [add_block]; exact hn136_0) | exact hn136_0) : p := h
theorem zG72 {p : Prop} (h : p := by first | (rw [add_block]; exact hn136_1) | (show (Addr.add _ _).block ≠ _; rw [add_block]; exact hn136_1) | exact hn136_1) : p := h
theorem zG73 {p : Prop} (h : p := by first | (rw [add_block]; exact hn136_2) | (show (Addr.add _ _).block ≠ _; rw [add_block]; exact hn136_2) | exact hn136_2) : p := h
theorem zG74 {p : Prop} (h : p := by first | (rw [add_block]; exact hn136_3) | (show (Addr.add _ _).block ≠ _; rw [add_block]; exact hn136_3) | exact hn136_3) : p := h
theorem zG75 {p : Prop} (h : p := by first | (rw [add_block]; exact hn136_4) | (show (Addr.add _ _).block ≠ _; rw [add_block]; exact hn136_4) | exact hn136_4) : p := h
theorem zG76 {p : Prop} (h : p := by repeat (first | (with_reducible first | exact HB.out | apply ze | apply zc | apply zd) | exact HB.out)) : p := h
theorem zG77 {p : Prop} (h : p := by (with_reducible repeat (first | refine zi ?_ _ | refine zk ?_ | refine zj ?_ _)); exact BK315.out) : p := h
theorem zG78 {p : Prop} (h : p := by (with_reducible repeat (first | refine zi ?_ _ | refine zk ?_ | refine zj ?_ _)); exact BK331.out) : p := h
theorem zG79 {p : Prop} (h : p := by (with_reducible repeat (first | refine zi ?_ _ | refine zk ?_ | refine zj ?_ _)); exact BK279.out) : p := h
theorem zG80 {p : Prop} (h : p := by (with_reducible repeat (first | apply zl | apply zm | apply zn)); exact HO_316000.out) : p := h
theorem zG81 {p : Prop} (h : p := by (with_reducible repeat (first | apply zl | apply zm | apply zn)); exact HO_332000.out) : p := h
theorem zG82 {p : Prop} (h : p := by (with_reducible repeat (first | apply zz | apply zaa | apply zac)); exact HO_12.out) : p := h
theorem zG83 {p : Prop} (h : p := by (with_reducible repeat (first | apply zl | apply zm | apply zn)); exact HO_11.out) : p := h
theorem zG84 {p : Prop} (h : p := by (with_reducible repeat (first | apply zl | apply zm | apply zn)); exact HO_13.out) : p := h
theorem zG85 {p : Prop} (h : p := by (with_reducible repeat (first | apply zl | apply zm | apply zn)); exact HO335.out) : p := h
theorem zG86 {p : Prop} (h : p := by have := za _ _ hx136_0; first | rwa [add_block] at this | exact this) : p := h
theorem zG87 {p : Prop} (h : p := by have := za _ _ hw237_0; first | rwa [add_block] at this | exact this) : p := h
theorem zG88 {p : Prop} (h : p := by have := za _ _ hw237_1; first | rwa [add_block] at this | exact this) : p := h
theorem zG89 {p : Prop} (h : p := by have := za _ _ hw237_2; first | rwa [add_block] at this | exact this) : p := h
theorem zG90 {p : Prop} (h : p := by have := za _ _ hw238_0; first | rwa [add_block] at this | exact this) : p := h
theorem zG91 {p : Prop} (h : p := by have := za _ _ hw238_1; first | rwa [add_block] at this | exact this) : p := h
theorem zG92 {p : Prop} (h : p := by have := za _ _ hw238_2; first | rwa [add_block] at this | exact this) : p := h
theorem zG93 {p : Prop} (h : p := by have := za _ _ hw238_3; first | rwa [add_block] at this | exact this) : p := h
theorem zG94 {p : Prop} (h : p := by have := za _ _ hw238_4; first | rwa [add_block] at this | exact this) : p := h
theorem zG95 {p : Prop} (h : p := by first | rfl | (simp; done) | (simp [*]; done)) : p := h
theorem zG96 {p : Prop} (h : p := by kernel_rfl) : p := h
-- pressed
abbrev zA_ := @And.intro
theorem zH0 {p : Prop} (h : p := by (with_reducible repeat (first | refine zi ?_ _ | refine zk ?_ | refine zj ?_ _)); refine zy (cs := #[.string ((rd_T100 l1 x7_3).f0), .int .i64 ((rd_T100 l1 x7_3).f1), .int .i64 ((rd_T100 l1 x7_3).f2), .int .i64 ((rd_T100 l1 x7_3).f3), .slice none 0 0]) ?_ 4 _ rfl; (with_reducible repeat (first | refine zi ?_ _ | refine zk ?_ | refine zj ?_ _)); refine zy (cs := #[.string ((rd_T100 l1 x7_3).f0), .int .i64 ((rd_T100 l1 x7_3).f1), .int .i64 ((rd_T100 l1 x7_3).f2), .int .i64 0, .slice none 0 0]) ?_ 3 _ rfl; (with_reducible repeat (first | refine zi ?_ _ | refine zk ?_ | refine zj ?_ _)); refine zy (cs := #[.string ((rd_T100 l1 x7_3).f0), .int .i64 ((rd_T100 l1 x7_3).f1), .int .i64 0, .int .i64 0, .slice none 0 0]) ?_ 2 _ rfl; (with_reducible repeat (first | refine zi ?_ _ | refine zk ?_ | refine zj ?_ _)); refine zy (cs := #[.string ((rd_T100 l1 x7_3).f0), .int .i64 0, .int .i64 0, .int .i64 0, .slice none 0 0]) ?_ 1 _ rfl; (with_reducible repeat (first | refine zi ?_ _ | refine zk ?_ | refine zj ?_ _)); refine zy (cs := #[.string (⟨#[]⟩ : ByteArray), .int .i64 0, .int .i64 0, .int .i64 0, .slice none 0 0]) ?_ 0 _ rfl; (with_reducible repeat (first | refine zi ?_ _ | refine zk ?_ | refine zj ?_ _)); exact BK124.out) : p := h
theorem zH1 {p : Prop} (h : p := by (with_reducible repeat (first | refine zi ?_ _ | refine zk ?_ | refine zj ?_ _)); refine zy (cs := #[.int .i64 ((rd_T98 l0 x20_2).f0), .int .i64 ((rd_T98 l0 x20_2).f1), .string (⟨#[]⟩ : ByteArray)]) ?_ 2 _ rfl; (with_reducible repeat (first | refine zi ?_ _ | refine zk ?_ | refine zj ?_ _)); refine zy (cs := #[.int .i64 ((rd_T98 l0 x20_2).f0), .int .i64 0, .string (⟨#[]⟩ : ByteArray)]) ?_ 1 _ rfl; (with_reducible repeat (first | refine zi ?_ _ | refine zk ?_ | refine zj ?_ _)); refine zy (cs := #[.int .i64 0, .int .i64 0, .string (⟨#[]⟩ : ByteArray)]) ?_ 0 _ rfl; (with_reducible repeat (first | refine zi ?_ _ | refine zk ?_ | refine zj ?_ _)); exact BK224.out) : p := h
theorem zH2 {p : Prop} (h : p := by (with_reducible repeat (first | refine zi ?_ _ | refine zk ?_ | refine zj ?_ _)); refine zy (cs := #[.int .i64 ((rd_T98 l0 x5_2).f0), .int .i64 ((rd_T98 l0 x5_2).f1), .string (⟨#[]⟩ : ByteArray)]) ?_ 2 _ rfl; (with_reducible repeat (first | refine zi ?_ _ | refine zk ?_ | refine zj ?_ _)); refine zy (cs := #[.int .i64 ((rd_T98 l0 x5_2).f0), .int .i64 0, .string (⟨#[]⟩ : ByteArray)]) ?_ 1 _ rfl; (with_reducible repeat (first | refine zi ?_ _ | refine zk ?_ | refine zj ?_ _)); refine zy (cs := #[.int .i64 0, .int .i64 0, .string (⟨#[]⟩ : ByteArray)]) ?_ 0 _ rfl; (with_reducible repeat (first | refine zi ?_ _ | refine zk ?_ | refine zj ?_ _)); exact BK120.out) : p := h
theorem zH3 {p : Prop} (h : p := by refine (Kd.R_reads' (e := 3) (base := w.heap.size) (ok := fun k_ => (((True ∧ some k_ ≠ (.slice Ao31 t309.length co31 : Value).ownBlock) ∧ some k_ ≠ (.slice Ao41 t325.length co41 : Value).ownBlock) ∧ some k_ ≠ (.slice Ao125 t360.length co125 : Value).ownBlock)) (n := t363.length) (c := co128) ?_).2.2; exact (by (with_reducible repeat (first | apply zl | apply zm | apply zn)); exact (zx (zv (p := ⟨gb369, 1, none⟩) (zv (p := ⟨gb369, 0, none⟩) (zab HO365.out BK369.out (by decide)) (fun _ hk => hk.2) (.slice Ao128 t363.length co128)) (fun _ hk => hk.2) (.int .i64 t366)) (fun _ h_ => h_.1)))) : p := h
theorem zH4 {p : Prop} (h : p := by refine (Kd.R_reads' (e := 3) (base := w.heap.size) (ok := fun k_ => ((some k_ ≠ (.slice Ao41 t325.length co41 : Value).ownBlock ∧ some k_ ≠ (.slice Ao125 t360.length co125 : Value).ownBlock) ∧ some k_ ≠ (.slice Ao128 t363.length co128 : Value).ownBlock)) (n := t309.length) (c := co31) ?_).2.2; exact (by (with_reducible repeat (first | apply zl | apply zm | apply zn)); exact (zx (zv (p := ⟨gb369, 1, none⟩) (zv (p := ⟨gb369, 0, none⟩) (zab HO_316000.out BK369.out (by decide)) (fun _ hk => hk.2) (.slice Ao128 t363.length co128)) (fun _ hk => hk.2) (.int .i64 t366)) (fun _ h_ => h_.1)))) : p := h
theorem zH5 {p : Prop} (h : p := by refine (Kd.R_reads' (e := 3) (base := w.heap.size) (ok := fun k_ => (((True ∧ some k_ ≠ (.slice Ao28 t306.length co28 : Value).ownBlock) ∧ some k_ ≠ (.slice Ao31 t309.length co31 : Value).ownBlock) ∧ some k_ ≠ (.slice Ao38 t322.length co38 : Value).ownBlock)) (n := t325.length) (c := co41) ?_).2.2; exact (by (with_reducible repeat (first | apply zl | apply zm | apply zn)); exact (zx (zv (p := ⟨gb331, 1, none⟩) (zv (p := ⟨gb331, 0, none⟩) (zab HO327.out BK331.out (by decide)) (fun _ hk => hk.2) (.slice Ao41 t325.length co41)) (fun _ hk => hk.2) (.int .i64 t328)) (fun _ h_ => h_.1)))) : p := h
theorem zH6 {p : Prop} (h : p := by refine (Kd.R_reads' (e := 3) (base := w.heap.size) (ok := fun k_ => (((True ∧ some k_ ≠ (.slice Ao28 t306.length co28 : Value).ownBlock) ∧ some k_ ≠ (.slice Ao38 t322.length co38 : Value).ownBlock) ∧ some k_ ≠ (.slice Ao41 t325.length co41 : Value).ownBlock)) (n := t309.length) (c := co31) ?_).2.2; exact (by (with_reducible repeat (first | apply zl | apply zm | apply zn)); exact (zx (zv (p := ⟨gb331, 1, none⟩) (zv (p := ⟨gb331, 0, none⟩) (zab HO311.out BK331.out (by decide)) (fun _ hk => hk.2) (.slice Ao41 t325.length co41)) (fun _ hk => hk.2) (.int .i64 t328)) (fun _ h_ => h_.1)))) : p := h
theorem zH7 {p : Prop} (h : p := by exact ⟨by first | rfl | (simp [errW_none, errW_some] <;> rfl) | (simp [*, errW_none, errW_some] <;> rfl), by (with_reducible repeat (first | apply zl | apply zm | apply zn)); exact HO_0.out, by repeat (first | (with_reducible first | exact HB.out | apply ze | apply zc | apply zd) | exact HB.out), by repeat (first | (with_reducible first | exact HK.out | apply Kept.alloc | apply Kept.drewN | apply Kept.drew) | exact HK.out)⟩) : p := h
theorem zH8 {p : Prop} (h : p := by exact ⟨_, by first | rfl | (simp [errW_none, errW_some] <;> rfl) | (simp [*, errW_none, errW_some] <;> rfl), by first | exact zax _ _ _ _ _ | exact zbb _ _ _ _ _ | exact zbc _ _ _ _ _ | exact zbd _ _ _ _ _ | exact zbe _ _ _ _ _, by repeat (first | (with_reducible first | exact HB.out | apply ze | apply zc | apply zd | refine zh ?_ GE150.out) | exact HB.out)⟩) : p := h
theorem zH9 {p : Prop} (h : p := by exact ⟨_, by first | rfl | (simp [errW_none, errW_some] <;> rfl) | (simp [*, errW_none, errW_some] <;> rfl), by first | exact zax _ _ _ _ _ | exact zbb _ _ _ _ _ | exact zbc _ _ _ _ _ | exact zbd _ _ _ _ _ | exact zbe _ _ _ _ _, by repeat (first | (with_reducible first | exact HB.out | apply ze | apply zc | apply zd | refine zh ?_ GE256.out) | exact HB.out)⟩) : p := h
theorem zH10 {p : Prop} (h : p := by exact ⟨_, by first | rfl | (simp [errW_none, errW_some] <;> rfl) | (simp [*, errW_none, errW_some] <;> rfl), by (with_reducible repeat (first | apply zl | apply zm | apply zn)); exact HO_3.out, by repeat (first | (with_reducible first | exact HB.out | apply ze | apply zc | apply zd) | exact HB.out)⟩) : p := h
theorem zH11 {p : Prop} (h : p := by exact ⟨by first | rfl | (simp [errW_none, errW_some] <;> rfl) | (simp [*, errW_none, errW_some] <;> rfl), by repeat (first | (with_reducible first | exact HB.out | apply ze | apply zc | apply zd | refine zh ?_ GE315.out | refine zh ?_ GE331.out | refine zh ?_ GE369.out) | exact HB.out)⟩) : p := h
theorem zH12 {p : Prop} (h : p := by exact ⟨by first | rfl | (simp [errW_none, errW_some] <;> rfl) | (simp [*, errW_none, errW_some] <;> rfl), by repeat (first | (with_reducible first | exact HB.out | apply ze | apply zc | apply zd | refine zh ?_ GE269.out | refine zh ?_ GE270.out) | exact HB.out)⟩) : p := h
theorem zH13 {p : Prop} (h : p := by exact ⟨by first | rfl | (simp [errW_none, errW_some] <;> rfl) | (simp [*, errW_none, errW_some] <;> rfl), by repeat (first | (with_reducible first | exact HB.out | apply ze | apply zc | apply zd | refine zh ?_ GE239.out | refine zh ?_ GE240.out) | exact HB.out)⟩) : p := h
theorem zH14 {p : Prop} (h : p := by exact ⟨by first | rfl | (simp [errW_none, errW_some] <;> rfl) | (simp [*, errW_none, errW_some] <;> rfl), by repeat (first | (with_reducible first | exact HB.out | apply ze | apply zc | apply zd | refine zh ?_ GE272.out | refine zh ?_ GE273.out) | exact HB.out)⟩) : p := h
theorem zH15 {p : Prop} (h : p := by exact ⟨by first | rfl | (simp [errW_none, errW_some] <;> rfl) | (simp [*, errW_none, errW_some] <;> rfl), by repeat (first | (with_reducible first | exact HB.out | apply ze | apply zc | apply zd | refine zh ?_ GE279.out | refine zh ?_ GE280.out) | exact HB.out)⟩) : p := h
theorem zH16 {p : Prop} (h : p := by exact ⟨by first | rfl | (simp [errW_none, errW_some] <;> rfl) | (simp [*, errW_none, errW_some] <;> rfl), by repeat (first | (with_reducible first | exact HB.out | apply ze | apply zc | apply zd | refine zh ?_ GE315.out | refine zh ?_ GE331.out) | exact HB.out)⟩) : p := h
theorem zH17 {p : Prop} (h : p := by exact ⟨by first | rfl | (simp [errW_none, errW_some] <;> rfl) | (simp [*, errW_none, errW_some] <;> rfl), by repeat (first | (with_reducible first | exact HB.out | apply ze | apply zc | apply zd | refine zh ?_ GE109.out) | exact HB.out)⟩) : p := h
theorem zH18 {p : Prop} (h : p := by exact ⟨by first | rfl | (simp [errW_none, errW_some] <;> rfl) | (simp [*, errW_none, errW_some] <;> rfl), by repeat (first | (with_reducible first | exact HB.out | apply ze | apply zc | apply zd | refine zh ?_ GE296.out) | exact HB.out)⟩) : p := h
theorem zH19 {p : Prop} (h : p := by exact ⟨by first | rfl | (simp [errW_none, errW_some] <;> rfl) | (simp [*, errW_none, errW_some] <;> rfl), by repeat (first | (with_reducible first | exact HB.out | apply ze | apply zc | apply zd | refine zh ?_ GE113.out) | exact HB.out)⟩) : p := h
theorem zH20 {p : Prop} (h : p := by exact ⟨by first | rfl | (simp [errW_none, errW_some] <;> rfl) | (simp [*, errW_none, errW_some] <;> rfl), by repeat (first | (with_reducible first | exact HB.out | apply ze | apply zc | apply zd | refine zh ?_ GE124.out) | exact HB.out)⟩) : p := h
theorem zH21 {p : Prop} (h : p := by exact ⟨by first | rfl | (simp [errW_none, errW_some] <;> rfl) | (simp [*, errW_none, errW_some] <;> rfl), by repeat (first | (with_reducible first | exact HB.out | apply ze | apply zc | apply zd | refine zh ?_ GE135.out) | exact HB.out)⟩) : p := h
theorem zH22 {p : Prop} (h : p := by exact ⟨by first | rfl | (simp [errW_none, errW_some] <;> rfl) | (simp [*, errW_none, errW_some] <;> rfl), by repeat (first | (with_reducible first | exact HB.out | apply ze | apply zc | apply zd | refine zh ?_ GE224.out) | exact HB.out)⟩) : p := h
theorem zH23 {p : Prop} (h : p := by exact ⟨by first | rfl | (simp [errW_none, errW_some] <;> rfl) | (simp [*, errW_none, errW_some] <;> rfl), by repeat (first | (with_reducible first | exact HB.out | apply ze | apply zc | apply zd | refine zh ?_ GE217.out) | exact HB.out)⟩) : p := h
theorem zH24 {p : Prop} (h : p := by exact ⟨by first | rfl | (simp [errW_none, errW_some] <;> rfl) | (simp [*, errW_none, errW_some] <;> rfl), by repeat (first | (with_reducible first | exact HB.out | apply ze | apply zc | apply zd) | exact HB.out)⟩) : p := h
theorem zH25 {p : Prop} (h : p := by repeat (first | (with_reducible first | exact HB.out | apply ze | apply zc | apply zd | refine zh ?_ GE315.out | refine zh ?_ GE331.out | refine zh ?_ GE369.out) | exact HB.out)) : p := h
theorem zH26 {p : Prop} (h : p := by exact ⟨by first | rfl | (simp; done) | (simp only [← hji25] <;> (first | rfl | simp)) | (simp [*]; done), by repeat (first | exact Drawn0.refl _ | apply Drawn0.step)⟩) : p := h
theorem zH27 {p : Prop} (h : p := by repeat (first | (with_reducible first | exact HB.out | apply ze | apply zc | apply zd | refine zh ?_ GE239.out | refine zh ?_ GE240.out) | exact HB.out)) : p := h
theorem zH28 {p : Prop} (h : p := by repeat (first | (with_reducible first | exact HB.out | apply ze | apply zc | apply zd | refine zh ?_ GE315.out | refine zh ?_ GE331.out) | exact HB.out)) : p := h
theorem zH29 {p : Prop} (h : p := by repeat (first | exact (Kd.R_reads' HO_316000.out).2.2 | (with_reducible refine zr ?_ _) | (with_reducible refine zs ?_ _) | (with_reducible refine zt ?_))) : p := h
theorem zH30 {p : Prop} (h : p := by repeat (first | exact (Kd.R_reads' HO_332000.out).2.2 | (with_reducible refine zr ?_ _) | (with_reducible refine zs ?_ _) | (with_reducible refine zt ?_))) : p := h
theorem zH31 {p : Prop} (h : p := by exact zw HR230_4.out (by repeat (first | (with_reducible first | exact HB.out | apply ze | apply zc | apply zd | refine zh ?_ GE231.out) | exact HB.out))) : p := h
theorem zH32 {p : Prop} (h : p := by exact zw HR134_4.out (by repeat (first | (with_reducible first | exact HB.out | apply ze | apply zc | apply zd | refine zh ?_ GE135.out) | exact HB.out))) : p := h
theorem zH33 {p : Prop} (h : p := by repeat (first | (with_reducible first | exact HB.out | apply ze | apply zc | apply zd | refine zh ?_ GE315.out | refine zh ?_ GE331.out) | exact HB.out)) : p := h
theorem zH34 {p : Prop} (h : p := by repeat (first | exact (Kd.R_reads' HO343.out).2.2 | (with_reducible refine zr ?_ _) | (with_reducible refine zs ?_ _) | (with_reducible refine zt ?_))) : p := h
theorem zH35 {p : Prop} (h : p := by repeat (first | exact (Kd.R_reads' HO_13.out).2.2 | (with_reducible refine zr ?_ _) | (with_reducible refine zs ?_ _) | (with_reducible refine zt ?_))) : p := h
theorem zH36 {p : Prop} (h : p := by repeat (first | exact (Kd.R_reads' HO335.out).2.2 | (with_reducible refine zr ?_ _) | (with_reducible refine zs ?_ _) | (with_reducible refine zt ?_))) : p := h
theorem zH37 {p : Prop} (h : p := by repeat (first | exact (Kd.R_reads' HO_11.out).2.2 | (with_reducible refine zr ?_ _) | (with_reducible refine zs ?_ _) | (with_reducible refine zt ?_))) : p := h
theorem zH38 {p : Prop} (h : p := by repeat (first | exact (zw HR115_4.out HB.out) | (with_reducible refine zr ?_ _) | (with_reducible refine zs ?_ _) | (with_reducible refine zt ?_))) : p := h
theorem zH39 {p : Prop} (h : p := by repeat (first | exact (zw HR282_4.out HB.out) | (with_reducible refine zr ?_ _) | (with_reducible refine zs ?_ _) | (with_reducible refine zt ?_))) : p := h
theorem zH40 {p : Prop} (h : p := by repeat (first | exact (zw HR283_4.out HB.out) | (with_reducible refine zr ?_ _) | (with_reducible refine zs ?_ _) | (with_reducible refine zt ?_))) : p := h
theorem zH41 {p : Prop} (h : p := by repeat (first | exact (zw HR238_4.out HB.out) | (with_reducible refine zr ?_ _) | (with_reducible refine zs ?_ _) | (with_reducible refine zt ?_))) : p := h
theorem zH42 {p : Prop} (h : p := by repeat (first | exact (zw HR1_4.out HB.out) | (with_reducible refine zr ?_ _) | (with_reducible refine zs ?_ _) | (with_reducible refine zt ?_))) : p := h
theorem zH43 {p : Prop} (h : p := by repeat (first | exact (zw HR1_0.out HB.out) | (with_reducible refine zr ?_ _) | (with_reducible refine zs ?_ _) | (with_reducible refine zt ?_))) : p := h
theorem zH44 {p : Prop} (h : p := by repeat (first | exact (zw HR0_4.out HB.out) | (with_reducible refine zr ?_ _) | (with_reducible refine zs ?_ _) | (with_reducible refine zt ?_))) : p := h
theorem zH45 {p : Prop} (h : p := by repeat (first | exact (zw HR0_0.out HB.out) | (with_reducible refine zr ?_ _) | (with_reducible refine zs ?_ _) | (with_reducible refine zt ?_))) : p := h
theorem zH46 {p : Prop} (h : p := by repeat (first | exact (zak HO339.out).2.2 | (with_reducible refine zr ?_ _) | (with_reducible refine zs ?_ _) | (with_reducible refine zt ?_))) : p := h
theorem zH47 {p : Prop} (h : p := by repeat (first | exact (zak HO_12.out).2.2 | (with_reducible refine zr ?_ _) | (with_reducible refine zs ?_ _) | (with_reducible refine zt ?_))) : p := h
theorem zH48 {p : Prop} (h : p := by repeat (first | exact (zw HR2.out HB.out) | (with_reducible refine zr ?_ _) | (with_reducible refine zs ?_ _) | (with_reducible refine zt ?_))) : p := h
theorem zH49 {p : Prop} (h : p := by repeat (first | exact (zw HR1.out HB.out) | (with_reducible refine zr ?_ _) | (with_reducible refine zs ?_ _) | (with_reducible refine zt ?_))) : p := h
theorem zH50 {p : Prop} (h : p := by repeat (first | exact (zw HR0.out HB.out) | (with_reducible refine zr ?_ _) | (with_reducible refine zs ?_ _) | (with_reducible refine zt ?_))) : p := h
theorem zH51 {p : Prop} (h : p := by repeat (first | exact (zw HR1.out zG66) | (with_reducible refine zr ?_ _) | (with_reducible refine zs ?_ _) | (with_reducible refine zt ?_))) : p := h
theorem zH52 {p : Prop} (h : p := by repeat (first | exact HR210.out | (with_reducible refine zr ?_ _) | (with_reducible refine zs ?_ _) | (with_reducible refine zt ?_))) : p := h
theorem zH53 {p : Prop} (h : p := by repeat (first | (with_reducible first | exact HB.out | apply ze | apply zc | apply zd | refine zh ?_ GE231.out) | exact HB.out)) : p := h
theorem zH54 {p : Prop} (h : p := by repeat (first | exact HR0.out | (with_reducible refine zr ?_ _) | (with_reducible refine zs ?_ _) | (with_reducible refine zt ?_))) : p := h
theorem zH55 {p : Prop} (h : p := by repeat (first | (with_reducible first | exact HB.out | apply ze | apply zc | apply zd | refine zh ?_ GE217.out) | exact HB.out)) : p := h
theorem zH56 {p : Prop} (h : p := by repeat (first | (with_reducible first | exact HB.out | apply ze | apply zc | apply zd | refine zh ?_ GE120.out) | exact HB.out)) : p := h
theorem zH57 {p : Prop} (h : p := by repeat (first | (with_reducible first | exact HB.out | apply ze | apply zc | apply zd | refine zh ?_ GE135.out) | exact HB.out)) : p := h
theorem zH58 {p : Prop} (h : p := by repeat (first | (with_reducible first | exact HB.out | apply ze | apply zc | apply zd | refine zh ?_ GE150.out) | exact HB.out)) : p := h
theorem zH59 {p : Prop} (h : p := by repeat (first | (with_reducible first | exact HB.out | apply ze | apply zc | apply zd | refine zh ?_ GE256.out) | exact HB.out)) : p := h
theorem zH60 {p : Prop} (h : p := by repeat (first | (with_reducible first | exact HB.out | apply ze | apply zc | apply zd | refine zh ?_ GE124.out) | exact HB.out)) : p := h
theorem zH61 {p : Prop} (h : p := by repeat (first | (with_reducible first | exact HB.out | apply ze | apply zc | apply zd | refine zh ?_ GE224.out) | exact HB.out)) : p := h
theorem zH62 {p : Prop} (h : p := by repeat (first | (with_reducible first | exact HK.out | apply Kept.alloc | apply Kept.drewN | apply Kept.drew) | exact HK.out)) : p := h
theorem zH63 {p : Prop} (h : p := by rw [← hq_]; exact (by (with_reducible repeat (first | refine zi ?_ _ | refine zk ?_ | refine zj ?_ _)); exact BK150.out)) : p := h
theorem zH64 {p : Prop} (h : p := by rw [← hq_]; exact (by (with_reducible repeat (first | refine zi ?_ _ | refine zk ?_ | refine zj ?_ _)); exact BK256.out)) : p := h
theorem zH65 {p : Prop} (h : p := by (with_reducible repeat (first | apply zl | apply zm | apply zn)); exact zx HO365.out (fun _ hk => ⟨hk.1.1.2, hk.1.2⟩)) : p := h
theorem zH66 {p : Prop} (h : p := by (with_reducible repeat (first | apply zl | apply zm | apply zn)); exact zx HO_316000.out (fun _ hk => ⟨hk.1.1, hk.2⟩)) : p := h
theorem zH67 {p : Prop} (h : p := by (with_reducible repeat (first | apply zl | apply zm | apply zn)); exact zx HO_332000.out (fun _ hk => ⟨hk.1.1, hk.2⟩)) : p := h
theorem zH68 {p : Prop} (h : p := by exact ⟨by first | rfl | (simp; done) | (simp [*]; done), by repeat (first | exact Drawn0.refl _ | apply Drawn0.step)⟩) : p := h
theorem zH69 {p : Prop} (h : p := by (with_reducible repeat (first | apply zl | apply zm | apply zn)); exact zx HO311.out (fun _ hk => ⟨hk.1.2, hk.2⟩)) : p := h
theorem zH70 {p : Prop} (h : p := by (with_reducible repeat (first | apply zl | apply zm | apply zn)); exact zx HO324.out (fun _ hk => ⟨hk.1.2, hk.2⟩)) : p := h
theorem zH71 {p : Prop} (h : p := by (with_reducible repeat (first | apply zl | apply zm | apply zn)); exact zx HO327.out (fun _ hk => ⟨hk.2, hk.1.2⟩)) : p := h
theorem zH72 {p : Prop} (h : p := by rw [show t352.length = t325.length from (Kd.R_reads' HO_332000.out).1.symm]; exact (Kd.R_reads' HO_332000.out).2.1) : p := h
theorem zH73 {p : Prop} (h : p := by (with_reducible repeat (first | apply zz | apply zaa | apply zac)); exact zar HO321.out (fun _ hk => trivial)) : p := h
theorem zH74 {p : Prop} (h : p := by (with_reducible repeat (first | apply zl | apply zm | apply zn)); exact zx HO_316000.out (fun _ hk => hk.2.1)) : p := h
theorem zH75 {p : Prop} (h : p := by (with_reducible repeat (first | apply zl | apply zm | apply zn)); exact zx HO_332000.out (fun _ hk => hk.2.1)) : p := h
theorem zH76 {p : Prop} (h : p := by have := HJ2.out; have := HK2.out; have := HK3.out; have := HJ28.out; have := HK5.out; have := HK6.out; omega) : p := h
theorem zH77 {p : Prop} (h : p := by (with_reducible repeat (first | apply zl | apply zm | apply zn)); exact zx HO318.out (fun _ hk => trivial)) : p := h
theorem zH78 {p : Prop} (h : p := by repeat (first | (with_reducible first | exact HB0.out | apply ze | apply zc | apply zd) | exact HB0.out)) : p := h
theorem zH79 {p : Prop} (h : p := by repeat (first | (with_reducible first | exact HB.out | apply ze | apply zc | apply zd) | exact HB.out)) : p := h
theorem zH80 {p : Prop} (h : p := by (with_reducible repeat (first | refine zi ?_ _ | refine zk ?_ | refine zj ?_ _)); exact BK135.out) : p := h
theorem zH81 {p : Prop} (h : p := by (with_reducible repeat (first | refine zi ?_ _ | refine zk ?_ | refine zj ?_ _)); exact BK239.out) : p := h
theorem zH82 {p : Prop} (h : p := by (with_reducible repeat (first | refine zi ?_ _ | refine zk ?_ | refine zj ?_ _)); exact BK240.out) : p := h
theorem zH83 {p : Prop} (h : p := by (with_reducible repeat (first | refine zi ?_ _ | refine zk ?_ | refine zj ?_ _)); exact BK369.out) : p := h
theorem zH84 {p : Prop} (h : p := by (with_reducible repeat (first | refine zi ?_ _ | refine zk ?_ | refine zj ?_ _)); exact BK124.out) : p := h
theorem zH85 {p : Prop} (h : p := by (with_reducible repeat (first | refine zi ?_ _ | refine zk ?_ | refine zj ?_ _)); exact BK150.out) : p := h
theorem zH86 {p : Prop} (h : p := by (with_reducible repeat (first | refine zi ?_ _ | refine zk ?_ | refine zj ?_ _)); exact BK256.out) : p := h
theorem zH87 {p : Prop} (h : p := by (with_reducible repeat (first | refine zi ?_ _ | refine zk ?_ | refine zj ?_ _)); exact BK315.out) : p := h
theorem zH88 {p : Prop} (h : p := by (with_reducible repeat (first | refine zi ?_ _ | refine zk ?_ | refine zj ?_ _)); exact BK331.out) : p := h
theorem zH89 {p : Prop} (h : p := by first | rfl | (simp [errW_none, errW_some] <;> rfl) | (simp [*, errW_none, errW_some] <;> rfl)) : p := h
theorem zH90 {p : Prop} (h : p := by have := HJ2.out; have := HK2.out; have := HK3.out; first | omega | exact Nat.le_refl _) : p := h
theorem zH91 {p : Prop} (h : p := by (with_reducible repeat (first | apply zl | apply zm | apply zn)); exact HO_0.out) : p := h
theorem zH92 {p : Prop} (h : p := by (with_reducible repeat (first | apply zl | apply zm | apply zn)); exact HO_3.out) : p := h
theorem zH93 {p : Prop} (h : p := by have := HJ19.out; have := HJ71.out; first | omega | exact Nat.le_refl _) : p := h
theorem zH94 {p : Prop} (h : p := by have := HJ2.out; have := HK2.out; first | omega | exact Nat.le_refl _) : p := h
theorem zH95 {p : Prop} (h : p := by repeat (first | exact Drawn0.refl _ | apply Drawn0.step)) : p := h
theorem zH96 {p : Prop} (h : p := by have := HJ19.out; first | omega | exact Nat.le_refl _) : p := h
theorem zH97 {p : Prop} (h : p := by have := HJ5.out; first | omega | exact Nat.le_refl _) : p := h
theorem zH98 {p : Prop} (h : p := by have := HK1.out; first | omega | exact Nat.le_refl _) : p := h
theorem zH99 {p : Prop} (h : p := by have := HK1.out; have := HJ4.out; omega) : p := h
theorem zH100 {p : Prop} (h : p := by first | (go_simp; done) | (go_simp; rfl)) : p := h
theorem zH101 {p : Prop} (h : p := by first | omega | exact Nat.le_refl _) : p := h
theorem zH102 {p : Prop} (h : p := by exact (Kd.R_reads' HO_316000.out).2.1) : p := h
theorem zH103 {p : Prop} (h : p := by exact (Kd.R_reads' HO_332000.out).2.1) : p := h
theorem zH104 {p : Prop} (h : p := by have := HK1.out; omega) : p := h
theorem zK105 {p : Prop} (h : p := by (with_reducible repeat (first | refine zi ?_ _ | refine zk ?_ | refine zj ?_ _)); refine zy (cs := #[.string ((rd_T100 l1 x65_3).f0), .int .i64 ((rd_T100 l1 x65_3).f1), .int .i64 ((rd_T100 l1 x65_3).f2), .int .i64 ((rd_T100 l1 x65_3).f3), .slice none 0 0]) ?_ 4 _ rfl; (with_reducible repeat (first | refine zi ?_ _ | refine zk ?_ | refine zj ?_ _)); refine zy (cs := #[.string ((rd_T100 l1 x65_3).f0), .int .i64 ((rd_T100 l1 x65_3).f1), .int .i64 ((rd_T100 l1 x65_3).f2), .int .i64 0, .slice none 0 0]) ?_ 3 _ rfl; (with_reducible repeat (first | refine zi ?_ _ | refine zk ?_ | refine zj ?_ _)); refine zy (cs := #[.string ((rd_T100 l1 x65_3).f0), .int .i64 ((rd_T100 l1 x65_3).f1), .int .i64 0, .int .i64 0, .slice none 0 0]) ?_ 2 _ rfl; (with_reducible repeat (first | refine zi ?_ _ | refine zk ?_ | refine zj ?_ _)); refine zy (cs := #[.string ((rd_T100 l1 x65_3).f0), .int .i64 0, .int .i64 0, .int .i64 0, .slice none 0 0]) ?_ 1 _ rfl; (with_reducible repeat (first | refine zi ?_ _ | refine zk ?_ | refine zj ?_ _)); refine zy (cs := #[.string (⟨#[]⟩ : ByteArray), .int .i64 0, .int .i64 0, .int .i64 0, .slice none 0 0]) ?_ 0 _ rfl; (with_reducible repeat (first | refine zi ?_ _ | refine zk ?_ | refine zj ?_ _)); exact BK231.out) : p := h
theorem zK106 {p : Prop} (h : p := by (with_reducible repeat (first | apply zl | apply zm | apply zn)); exact (zx (zv (p := ⟨gb231, 4, none⟩) (zv (p := ⟨gb231, 3, none⟩) (zv (p := ⟨gb231, 2, none⟩) (zv (p := ⟨gb231, 1, none⟩) (zv (p := ⟨gb231, 0, none⟩) (zab HO_7.out BK231.out (by decide)) (fun _ hk => hk.2) (.string ((rd_T100 l1 x65_3).f0))) (fun _ hk => hk.2) (.int .i64 ((rd_T100 l1 x65_3).f1))) (fun _ hk => hk.2) (.int .i64 ((rd_T100 l1 x65_3).f2))) (fun _ hk => hk.2) (.int .i64 ((rd_T100 l1 x65_3).f3))) (fun _ hk => hk.2) (.slice A230_4 ((rd_T100 l1 x65_3).f4).length c230_4)) (fun _ h_ => h_.1))) : p := h
theorem zK107 {p : Prop} (h : p := by (with_reducible repeat (first | refine zi ?_ _ | refine zk ?_ | refine zj ?_ _)); refine zy (cs := #[.slice none 0 0, .int .i64 x257001_2]) ?_ 1 _ rfl; (with_reducible repeat (first | refine zi ?_ _ | refine zk ?_ | refine zj ?_ _)); refine zy (cs := #[.slice none 0 0, .int .i64 x257001_2]) ?_ 0 _ rfl; (with_reducible repeat (first | refine zi ?_ _ | refine zk ?_ | refine zj ?_ _)); exact BK256.out) : p := h
theorem zK108 {p : Prop} (h : p := by (with_reducible repeat (first | refine zi ?_ _ | refine zk ?_ | refine zj ?_ _)); refine zy (cs := #[.slice none 0 0, .int .i64 x151001_2]) ?_ 1 _ rfl; (with_reducible repeat (first | refine zi ?_ _ | refine zk ?_ | refine zj ?_ _)); refine zy (cs := #[.slice none 0 0, .int .i64 x151001_2]) ?_ 0 _ rfl; (with_reducible repeat (first | refine zi ?_ _ | refine zk ?_ | refine zj ?_ _)); exact BK150.out) : p := h
theorem zK109 {p : Prop} (h : p := by (with_reducible repeat (first | refine zi ?_ _ | refine zk ?_ | refine zj ?_ _)); refine zy (cs := #[.slice Ao128 t363.length co128, .int .i64 0]) ?_ 1 _ rfl; (with_reducible repeat (first | refine zi ?_ _ | refine zk ?_ | refine zj ?_ _)); refine zy (cs := #[.slice none 0 0, .int .i64 0]) ?_ 0 _ rfl; (with_reducible repeat (first | refine zi ?_ _ | refine zk ?_ | refine zj ?_ _)); exact BK369.out) : p := h
theorem zK110 {p : Prop} (h : p := by (with_reducible repeat (first | refine zi ?_ _ | refine zk ?_ | refine zj ?_ _)); refine zy (cs := #[.slice Ao41 t325.length co41, .int .i64 0]) ?_ 1 _ rfl; (with_reducible repeat (first | refine zi ?_ _ | refine zk ?_ | refine zj ?_ _)); refine zy (cs := #[.slice none 0 0, .int .i64 0]) ?_ 0 _ rfl; (with_reducible repeat (first | refine zi ?_ _ | refine zk ?_ | refine zj ?_ _)); exact BK331.out) : p := h
theorem zK111 {p : Prop} (h : p := by (with_reducible repeat (first | refine zi ?_ _ | refine zk ?_ | refine zj ?_ _)); refine zy (cs := #[.slice none 0 0, .int .i64 0]) ?_ 1 _ rfl; (with_reducible repeat (first | refine zi ?_ _ | refine zk ?_ | refine zj ?_ _)); refine zy (cs := #[.slice none 0 0, .int .i64 0]) ?_ 0 _ rfl; (with_reducible repeat (first | refine zi ?_ _ | refine zk ?_ | refine zj ?_ _)); exact BK256.out) : p := h
theorem zK112 {p : Prop} (h : p := by (with_reducible repeat (first | refine zi ?_ _ | refine zk ?_ | refine zj ?_ _)); refine zy (cs := #[.slice none 0 0, .int .i64 0]) ?_ 1 _ rfl; (with_reducible repeat (first | refine zi ?_ _ | refine zk ?_ | refine zj ?_ _)); refine zy (cs := #[.slice none 0 0, .int .i64 0]) ?_ 0 _ rfl; (with_reducible repeat (first | refine zi ?_ _ | refine zk ?_ | refine zj ?_ _)); exact BK150.out) : p := h
theorem zK113 {p : Prop} (h : p := by (with_reducible repeat (first | refine zi ?_ _ | refine zk ?_ | refine zj ?_ _)); refine zaf ?_ NB315_331.out _; (with_reducible repeat (first | refine zi ?_ _ | refine zk ?_ | refine zj ?_ _)); refine zaf ?_ NB315_331.out _; (with_reducible repeat (first | refine zi ?_ _ | refine zk ?_ | refine zj ?_ _)); exact BK315.out) : p := h
theorem zK114 {p : Prop} (h : p := by (with_reducible repeat (first | refine zi ?_ _ | refine zk ?_ | refine zj ?_ _)); refine zaf ?_ NB315_369.out _; (with_reducible repeat (first | refine zi ?_ _ | refine zk ?_ | refine zj ?_ _)); refine zaf ?_ NB315_369.out _; (with_reducible repeat (first | refine zi ?_ _ | refine zk ?_ | refine zj ?_ _)); exact BK315.out) : p := h
theorem zK115 {p : Prop} (h : p := by (with_reducible repeat (first | refine zi ?_ _ | refine zk ?_ | refine zj ?_ _)); refine zaf ?_ NB331_369.out _; (with_reducible repeat (first | refine zi ?_ _ | refine zk ?_ | refine zj ?_ _)); refine zaf ?_ NB331_369.out _; (with_reducible repeat (first | refine zi ?_ _ | refine zk ?_ | refine zj ?_ _)); exact BK331.out) : p := h
theorem zK116 {p : Prop} (h : p := by first | exact Nat.ne_of_lt (Nat.lt_of_lt_of_le zG87 GW239.out) | (rw [add_block]; exact Nat.ne_of_lt (Nat.lt_of_lt_of_le zG87 GW239.out)) | (show (Addr.add _ _).block ≠ _; rw [add_block]; exact Nat.ne_of_lt (Nat.lt_of_lt_of_le zG87 GW239.out)) | (dsimp only; exact Nat.ne_of_lt (Nat.lt_of_lt_of_le zG87 GW239.out))) : p := h
theorem zK117 {p : Prop} (h : p := by first | exact Nat.ne_of_lt (Nat.lt_of_lt_of_le zG88 GW239.out) | (rw [add_block]; exact Nat.ne_of_lt (Nat.lt_of_lt_of_le zG88 GW239.out)) | (show (Addr.add _ _).block ≠ _; rw [add_block]; exact Nat.ne_of_lt (Nat.lt_of_lt_of_le zG88 GW239.out)) | (dsimp only; exact Nat.ne_of_lt (Nat.lt_of_lt_of_le zG88 GW239.out))) : p := h
theorem zK118 {p : Prop} (h : p := by first | exact Nat.ne_of_lt (Nat.lt_of_lt_of_le zG89 GW239.out) | (rw [add_block]; exact Nat.ne_of_lt (Nat.lt_of_lt_of_le zG89 GW239.out)) | (show (Addr.add _ _).block ≠ _; rw [add_block]; exact Nat.ne_of_lt (Nat.lt_of_lt_of_le zG89 GW239.out)) | (dsimp only; exact Nat.ne_of_lt (Nat.lt_of_lt_of_le zG89 GW239.out))) : p := h
theorem zK119 {p : Prop} (h : p := by first | exact Nat.ne_of_lt (Nat.lt_of_lt_of_le zG90 GW239.out) | (rw [add_block]; exact Nat.ne_of_lt (Nat.lt_of_lt_of_le zG90 GW239.out)) | (show (Addr.add _ _).block ≠ _; rw [add_block]; exact Nat.ne_of_lt (Nat.lt_of_lt_of_le zG90 GW239.out)) | (dsimp only; exact Nat.ne_of_lt (Nat.lt_of_lt_of_le zG90 GW239.out))) : p := h
theorem zK120 {p : Prop} (h : p := by first | exact Nat.ne_of_lt (Nat.lt_of_lt_of_le zG91 GW239.out) | (rw [add_block]; exact Nat.ne_of_lt (Nat.lt_of_lt_of_le zG91 GW239.out)) | (show (Addr.add _ _).block ≠ _; rw [add_block]; exact Nat.ne_of_lt (Nat.lt_of_lt_of_le zG91 GW239.out)) | (dsimp only; exact Nat.ne_of_lt (Nat.lt_of_lt_of_le zG91 GW239.out))) : p := h
theorem zK121 {p : Prop} (h : p := by first | exact Nat.ne_of_lt (Nat.lt_of_lt_of_le zG92 GW239.out) | (rw [add_block]; exact Nat.ne_of_lt (Nat.lt_of_lt_of_le zG92 GW239.out)) | (show (Addr.add _ _).block ≠ _; rw [add_block]; exact Nat.ne_of_lt (Nat.lt_of_lt_of_le zG92 GW239.out)) | (dsimp only; exact Nat.ne_of_lt (Nat.lt_of_lt_of_le zG92 GW239.out))) : p := h
theorem zK122 {p : Prop} (h : p := by first | exact Nat.ne_of_lt (Nat.lt_of_lt_of_le zG93 GW239.out) | (rw [add_block]; exact Nat.ne_of_lt (Nat.lt_of_lt_of_le zG93 GW239.out)) | (show (Addr.add _ _).block ≠ _; rw [add_block]; exact Nat.ne_of_lt (Nat.lt_of_lt_of_le zG93 GW239.out)) | (dsimp only; exact Nat.ne_of_lt (Nat.lt_of_lt_of_le zG93 GW239.out))) : p := h
theorem zK123 {p : Prop} (h : p := by first | exact Nat.ne_of_lt (Nat.lt_of_lt_of_le zG94 GW239.out) | (rw [add_block]; exact Nat.ne_of_lt (Nat.lt_of_lt_of_le zG94 GW239.out)) | (show (Addr.add _ _).block ≠ _; rw [add_block]; exact Nat.ne_of_lt (Nat.lt_of_lt_of_le zG94 GW239.out)) | (dsimp only; exact Nat.ne_of_lt (Nat.lt_of_lt_of_le zG94 GW239.out))) : p := h
theorem zK124 {p : Prop} (h : p := by first | exact Nat.ne_of_lt (Nat.lt_of_lt_of_le zG87 GW240.out) | (rw [add_block]; exact Nat.ne_of_lt (Nat.lt_of_lt_of_le zG87 GW240.out)) | (show (Addr.add _ _).block ≠ _; rw [add_block]; exact Nat.ne_of_lt (Nat.lt_of_lt_of_le zG87 GW240.out)) | (dsimp only; exact Nat.ne_of_lt (Nat.lt_of_lt_of_le zG87 GW240.out))) : p := h
theorem zK125 {p : Prop} (h : p := by first | exact Nat.ne_of_lt (Nat.lt_of_lt_of_le zG88 GW240.out) | (rw [add_block]; exact Nat.ne_of_lt (Nat.lt_of_lt_of_le zG88 GW240.out)) | (show (Addr.add _ _).block ≠ _; rw [add_block]; exact Nat.ne_of_lt (Nat.lt_of_lt_of_le zG88 GW240.out)) | (dsimp only; exact Nat.ne_of_lt (Nat.lt_of_lt_of_le zG88 GW240.out))) : p := h
theorem zK126 {p : Prop} (h : p := by first | exact Nat.ne_of_lt (Nat.lt_of_lt_of_le zG89 GW240.out) | (rw [add_block]; exact Nat.ne_of_lt (Nat.lt_of_lt_of_le zG89 GW240.out)) | (show (Addr.add _ _).block ≠ _; rw [add_block]; exact Nat.ne_of_lt (Nat.lt_of_lt_of_le zG89 GW240.out)) | (dsimp only; exact Nat.ne_of_lt (Nat.lt_of_lt_of_le zG89 GW240.out))) : p := h
theorem zK127 {p : Prop} (h : p := by first | exact Nat.ne_of_lt (Nat.lt_of_lt_of_le zG90 GW240.out) | (rw [add_block]; exact Nat.ne_of_lt (Nat.lt_of_lt_of_le zG90 GW240.out)) | (show (Addr.add _ _).block ≠ _; rw [add_block]; exact Nat.ne_of_lt (Nat.lt_of_lt_of_le zG90 GW240.out)) | (dsimp only; exact Nat.ne_of_lt (Nat.lt_of_lt_of_le zG90 GW240.out))) : p := h
theorem zK128 {p : Prop} (h : p := by first | exact Nat.ne_of_lt (Nat.lt_of_lt_of_le zG91 GW240.out) | (rw [add_block]; exact Nat.ne_of_lt (Nat.lt_of_lt_of_le zG91 GW240.out)) | (show (Addr.add _ _).block ≠ _; rw [add_block]; exact Nat.ne_of_lt (Nat.lt_of_lt_of_le zG91 GW240.out)) | (dsimp only; exact Nat.ne_of_lt (Nat.lt_of_lt_of_le zG91 GW240.out))) : p := h
theorem zK129 {p : Prop} (h : p := by first | exact Nat.ne_of_lt (Nat.lt_of_lt_of_le zG92 GW240.out) | (rw [add_block]; exact Nat.ne_of_lt (Nat.lt_of_lt_of_le zG92 GW240.out)) | (show (Addr.add _ _).block ≠ _; rw [add_block]; exact Nat.ne_of_lt (Nat.lt_of_lt_of_le zG92 GW240.out)) | (dsimp only; exact Nat.ne_of_lt (Nat.lt_of_lt_of_le zG92 GW240.out))) : p := h
theorem zK130 {p : Prop} (h : p := by first | exact Nat.ne_of_lt (Nat.lt_of_lt_of_le zG93 GW240.out) | (rw [add_block]; exact Nat.ne_of_lt (Nat.lt_of_lt_of_le zG93 GW240.out)) | (show (Addr.add _ _).block ≠ _; rw [add_block]; exact Nat.ne_of_lt (Nat.lt_of_lt_of_le zG93 GW240.out)) | (dsimp only; exact Nat.ne_of_lt (Nat.lt_of_lt_of_le zG93 GW240.out))) : p := h
theorem zK131 {p : Prop} (h : p := by first | exact Nat.ne_of_lt (Nat.lt_of_lt_of_le zG94 GW240.out) | (rw [add_block]; exact Nat.ne_of_lt (Nat.lt_of_lt_of_le zG94 GW240.out)) | (show (Addr.add _ _).block ≠ _; rw [add_block]; exact Nat.ne_of_lt (Nat.lt_of_lt_of_le zG94 GW240.out)) | (dsimp only; exact Nat.ne_of_lt (Nat.lt_of_lt_of_le zG94 GW240.out))) : p := h
theorem zK132 {p : Prop} (h : p := by (try simp only [List.map_toArray, List.map_cons, List.map_nil]); first | done | (rw [show (l2.take (x42_2 : Int).toNat).length = x42_2.toNat from (by rw [List.length_take]; have h_ : (x42_2 : Int) ≤ (l2.length : Int) := zO; omega)] <;> rfl) | rfl | (simp only [List.length_drop, List.length_take]; rfl)) : p := h
theorem zK133 {p : Prop} (h : p := by (try simp only [List.map_toArray, List.map_cons, List.map_nil]); first | done | (rw [show (l0.take (x7_1 : Int).toNat).length = x7_1.toNat from (by rw [List.length_take]; have h_ : (x7_1 : Int) ≤ (l0.length : Int) := zO; omega)] <;> rfl) | rfl | (simp only [List.length_drop, List.length_take]; rfl)) : p := h
theorem zK134 {p : Prop} (h : p := by (with_reducible repeat (first | apply zz | apply zaa | apply zac)); exact (zar (zap (p := ⟨gb369, 1, none⟩) (zap (p := ⟨gb369, 0, none⟩) (zaw HO359.out BK369.out (by decide)) (fun _ hk => hk.2) (.slice Ao128 t363.length co128)) (fun _ hk => hk.2) (.int .i64 t366)) (fun _ h_ => h_.1))) : p := h
theorem zK135 {p : Prop} (h : p := by (with_reducible repeat (first | apply zl | apply zm | apply zn)); exact (zx (zv (p := ⟨gb369, 1, none⟩) (zv (p := ⟨gb369, 0, none⟩) (zab HO_316000.out BK369.out (by decide)) (fun _ hk => hk.2) (.slice Ao128 t363.length co128)) (fun _ hk => hk.2) (.int .i64 t366)) (fun _ h_ => h_.1))) : p := h
theorem zK136 {p : Prop} (h : p := by (with_reducible repeat (first | apply zl | apply zm | apply zn)); exact (zx (zv (p := ⟨gb369, 1, none⟩) (zv (p := ⟨gb369, 0, none⟩) (zab HO_332000.out BK369.out (by decide)) (fun _ hk => hk.2) (.slice Ao128 t363.length co128)) (fun _ hk => hk.2) (.int .i64 t366)) (fun _ h_ => h_.1))) : p := h
theorem zK137 {p : Prop} (h : p := by (with_reducible repeat (first | apply zz | apply zaa | apply zac)); exact (zar (zap (p := ⟨gb331, 1, none⟩) (zap (p := ⟨gb331, 0, none⟩) (zaw HO305.out BK331.out (by decide)) (fun _ hk => hk.2) (.slice Ao41 t325.length co41)) (fun _ hk => hk.2) (.int .i64 t328)) (fun _ h_ => h_.1))) : p := h
theorem zK138 {p : Prop} (h : p := by (with_reducible repeat (first | apply zz | apply zaa | apply zac)); exact (zar (zap (p := ⟨gb331, 1, none⟩) (zap (p := ⟨gb331, 0, none⟩) (zaw HO321.out BK331.out (by decide)) (fun _ hk => hk.2) (.slice Ao41 t325.length co41)) (fun _ hk => hk.2) (.int .i64 t328)) (fun _ h_ => h_.1))) : p := h
theorem zK139 {p : Prop} (h : p := by (with_reducible repeat (first | apply zl | apply zm | apply zn)); exact (zx (zv (p := ⟨gb369, 1, none⟩) (zv (p := ⟨gb369, 0, none⟩) (zab HO356.out BK369.out (by decide)) (fun _ hk => hk.2) (.slice Ao128 t363.length co128)) (fun _ hk => hk.2) (.int .i64 t366)) (fun _ h_ => h_.1))) : p := h
theorem zK140 {p : Prop} (h : p := by (with_reducible repeat (first | apply zl | apply zm | apply zn)); exact (zx (zv (p := ⟨gb369, 1, none⟩) (zv (p := ⟨gb369, 0, none⟩) (zab HO362.out BK369.out (by decide)) (fun _ hk => hk.2) (.slice Ao128 t363.length co128)) (fun _ hk => hk.2) (.int .i64 t366)) (fun _ h_ => h_.1))) : p := h
theorem zK141 {p : Prop} (h : p := by (with_reducible repeat (first | apply zl | apply zm | apply zn)); exact (zx (zv (p := ⟨gb369, 1, none⟩) (zv (p := ⟨gb369, 0, none⟩) (zab HO365.out BK369.out (by decide)) (fun _ hk => hk.2) (.slice Ao128 t363.length co128)) (fun _ hk => hk.2) (.int .i64 t366)) (fun _ h_ => h_.1))) : p := h
theorem zK142 {p : Prop} (h : p := by (with_reducible repeat (first | apply zl | apply zm | apply zn)); exact (zx (zv (p := ⟨gb315, 1, none⟩) (zv (p := ⟨gb315, 0, none⟩) (zab HO302.out BK315.out (by decide)) (fun _ hk => hk.2) (.slice Ao31 t309.length co31)) (fun _ hk => hk.2) (.int .i64 t312)) (fun _ h_ => h_.1))) : p := h
theorem zK143 {p : Prop} (h : p := by (with_reducible repeat (first | apply zl | apply zm | apply zn)); exact (zx (zv (p := ⟨gb331, 1, none⟩) (zv (p := ⟨gb331, 0, none⟩) (zab HO302.out BK331.out (by decide)) (fun _ hk => hk.2) (.slice Ao41 t325.length co41)) (fun _ hk => hk.2) (.int .i64 t328)) (fun _ h_ => h_.1))) : p := h
theorem zK144 {p : Prop} (h : p := by (with_reducible repeat (first | apply zl | apply zm | apply zn)); exact (zx (zv (p := ⟨gb331, 1, none⟩) (zv (p := ⟨gb331, 0, none⟩) (zab HO308.out BK331.out (by decide)) (fun _ hk => hk.2) (.slice Ao41 t325.length co41)) (fun _ hk => hk.2) (.int .i64 t328)) (fun _ h_ => h_.1))) : p := h
theorem zK145 {p : Prop} (h : p := by (with_reducible repeat (first | apply zl | apply zm | apply zn)); exact (zx (zv (p := ⟨gb331, 1, none⟩) (zv (p := ⟨gb331, 0, none⟩) (zab HO311.out BK331.out (by decide)) (fun _ hk => hk.2) (.slice Ao41 t325.length co41)) (fun _ hk => hk.2) (.int .i64 t328)) (fun _ h_ => h_.1))) : p := h
theorem zK146 {p : Prop} (h : p := by (with_reducible repeat (first | apply zl | apply zm | apply zn)); exact (zx (zv (p := ⟨gb331, 1, none⟩) (zv (p := ⟨gb331, 0, none⟩) (zab HO318.out BK331.out (by decide)) (fun _ hk => hk.2) (.slice Ao41 t325.length co41)) (fun _ hk => hk.2) (.int .i64 t328)) (fun _ h_ => h_.1))) : p := h
theorem zK147 {p : Prop} (h : p := by (with_reducible repeat (first | apply zl | apply zm | apply zn)); exact (zx (zv (p := ⟨gb331, 1, none⟩) (zv (p := ⟨gb331, 0, none⟩) (zab HO324.out BK331.out (by decide)) (fun _ hk => hk.2) (.slice Ao41 t325.length co41)) (fun _ hk => hk.2) (.int .i64 t328)) (fun _ h_ => h_.1))) : p := h
theorem zK148 {p : Prop} (h : p := by (with_reducible repeat (first | apply zl | apply zm | apply zn)); exact (zx (zv (p := ⟨gb331, 1, none⟩) (zv (p := ⟨gb331, 0, none⟩) (zab HO327.out BK331.out (by decide)) (fun _ hk => hk.2) (.slice Ao41 t325.length co41)) (fun _ hk => hk.2) (.int .i64 t328)) (fun _ h_ => h_.1))) : p := h
theorem zK149 {p : Prop} (h : p := by (try simp only [List.map_toArray, List.map_cons, List.map_nil]); first | done | (rw [show t352.length = t325.length from (Kd.R_reads' HO_332000.out).1.symm] <;> rfl) | rfl | (simp only [List.length_drop, List.length_take]; rfl)) : p := h
theorem zK150 {p : Prop} (h : p := by repeat (first | (with_reducible first | exact HB.out | apply ze | apply zc | apply zd | refine zh ?_ GE178.out | refine zh ?_ GE179.out | refine zh ?_ GE180.out) | exact HB.out)) : p := h
theorem zK151 {p : Prop} (h : p := by repeat (first | (with_reducible first | exact HB.out | apply ze | apply zc | apply zd | refine zh ?_ GE315.out | refine zh ?_ GE331.out | refine zh ?_ GE369.out) | exact HB.out)) : p := h
theorem zK152 {p : Prop} (h : p := by repeat (first | (with_reducible first | exact HB.out | apply ze | apply zc | apply zd | refine zh ?_ GE162.out | refine zh ?_ GE163.out) | exact HB.out)) : p := h
theorem zK153 {p : Prop} (h : p := by repeat (first | (with_reducible first | exact HB.out | apply ze | apply zc | apply zd | refine zh ?_ GE178.out | refine zh ?_ GE179.out) | exact HB.out)) : p := h
theorem zK154 {p : Prop} (h : p := by repeat (first | (with_reducible first | exact HB.out | apply ze | apply zc | apply zd | refine zh ?_ GE269.out) | exact HB.out)) : p := h
theorem zK155 {p : Prop} (h : p := by repeat (first | (with_reducible first | exact HB.out | apply ze | apply zc | apply zd | refine zh ?_ GE162.out) | exact HB.out)) : p := h
theorem zK156 {p : Prop} (h : p := by repeat (first | (with_reducible first | exact HB.out | apply ze | apply zc | apply zd | refine zh ?_ GE178.out) | exact HB.out)) : p := h
theorem zK157 {p : Prop} (h : p := by repeat (first | (with_reducible first | exact HB.out | apply ze | apply zc | apply zd | refine zh ?_ GE231.out) | exact HB.out)) : p := h
theorem zK158 {p : Prop} (h : p := by repeat (first | (with_reducible first | exact HB.out | apply ze | apply zc | apply zd | refine zh ?_ GE217.out) | exact HB.out)) : p := h
theorem zK159 {p : Prop} (h : p := by repeat (first | (with_reducible first | exact HB.out | apply ze | apply zc | apply zd | refine zh ?_ GE239.out) | exact HB.out)) : p := h
theorem zK160 {p : Prop} (h : p := by repeat (first | (with_reducible first | exact HB.out | apply ze | apply zc | apply zd | refine zh ?_ GE240.out) | exact HB.out)) : p := h
theorem zK161 {p : Prop} (h : p := by repeat (first | (with_reducible first | exact HK.out | apply Kept.alloc | apply Kept.drewN | apply Kept.drew) | exact HK.out)) : p := h
theorem zK162 {p : Prop} (h : p := by first | (rw [add_block]; exact hn138_0) | (show (Addr.add _ _).block ≠ _; rw [add_block]; exact hn138_0) | exact hn138_0) : p := h
theorem zK163 {p : Prop} (h : p := by first | (rw [add_block]; exact hn138_1) | (show (Addr.add _ _).block ≠ _; rw [add_block]; exact hn138_1) | exact hn138_1) : p := h
theorem zK164 {p : Prop} (h : p := by first | (rw [add_block]; exact hn138_2) | (show (Addr.add _ _).block ≠ _; rw [add_block]; exact hn138_2) | exact hn138_2) : p := h
theorem zK165 {p : Prop} (h : p := by first | (rw [add_block]; exact hn138_3) | (show (Addr.add _ _).block ≠ _; rw [add_block]; exact hn138_3) | exact hn138_3) : p := h
theorem zK166 {p : Prop} (h : p := by first | (rw [add_block]; exact hn138_4) | (show (Addr.add _ _).block ≠ _; rw [add_block]; exact hn138_4) | exact hn138_4) : p := h
theorem zK167 {p : Prop} (h : p := by first | (rw [add_block]; exact hn139_0) | (show (Addr.add _ _).block ≠ _; rw [add_block]; exact hn139_0) | exact hn139_0) : p := h
theorem zK168 {p : Prop} (h : p := by first | (rw [add_block]; exact hn139_1) | (show (Addr.add _ _).block ≠ _; rw [add_block]; exact hn139_1) | exact hn139_1) : p := h
theorem zK169 {p : Prop} (h : p := by first | (rw [add_block]; exact hn139_2) | (show (Addr.add _ _).block ≠ _; rw [add_block]; exact hn139_2) | exact hn139_2) : p := h
theorem zK170 {p : Prop} (h : p := by first | (rw [add_block]; exact hn139_3) | (show (Addr.add _ _).block ≠ _; rw [add_block]; exact hn139_3) | exact hn139_3) : p := h
theorem zK171 {p : Prop} (h : p := by first | (rw [add_block]; exact hn139_4) | (show (Addr.add _ _).block ≠ _; rw [add_block]; exact hn139_4) | exact hn139_4) : p := h
theorem zK172 {p : Prop} (h : p := by (with_reducible repeat (first | refine zi ?_ _ | refine zk ?_ | refine zj ?_ _)); exact BK256.out) : p := h
theorem zK173 {p : Prop} (h : p := by (with_reducible repeat (first | refine zi ?_ _ | refine zk ?_ | refine zj ?_ _)); exact BK269.out) : p := h
theorem zK174 {p : Prop} (h : p := by (with_reducible repeat (first | refine zi ?_ _ | refine zk ?_ | refine zj ?_ _)); exact BK272.out) : p := h
theorem zK175 {p : Prop} (h : p := by (with_reducible repeat (first | refine zi ?_ _ | refine zk ?_ | refine zj ?_ _)); exact BK150.out) : p := h
theorem zK176 {p : Prop} (h : p := by (with_reducible repeat (first | refine zi ?_ _ | refine zk ?_ | refine zj ?_ _)); exact BK162.out) : p := h
theorem zK177 {p : Prop} (h : p := by (with_reducible repeat (first | refine zi ?_ _ | refine zk ?_ | refine zj ?_ _)); exact BK163.out) : p := h
theorem zK178 {p : Prop} (h : p := by (with_reducible repeat (first | refine zi ?_ _ | refine zk ?_ | refine zj ?_ _)); exact BK178.out) : p := h
theorem zK179 {p : Prop} (h : p := by (with_reducible repeat (first | refine zi ?_ _ | refine zk ?_ | refine zj ?_ _)); exact BK179.out) : p := h
theorem zK180 {p : Prop} (h : p := by (with_reducible repeat (first | refine zi ?_ _ | refine zk ?_ | refine zj ?_ _)); exact BK369.out) : p := h
theorem zK181 {p : Prop} (h : p := by (with_reducible repeat (first | refine zi ?_ _ | refine zk ?_ | refine zj ?_ _)); exact BK239.out) : p := h
theorem zK182 {p : Prop} (h : p := by (with_reducible repeat (first | refine zi ?_ _ | refine zk ?_ | refine zj ?_ _)); exact BK240.out) : p := h
theorem zK183 {p : Prop} (h : p := by (with_reducible repeat (first | apply zl | apply zm | apply zn)); exact HO_370000.out) : p := h
theorem zK184 {p : Prop} (h : p := by (with_reducible repeat (first | apply zz | apply zaa | apply zac)); exact HO305.out) : p := h
theorem zK185 {p : Prop} (h : p := by (with_reducible repeat (first | apply zz | apply zaa | apply zac)); exact HO321.out) : p := h
theorem zK186 {p : Prop} (h : p := by (with_reducible repeat (first | apply zz | apply zaa | apply zac)); exact HO339.out) : p := h
theorem zK187 {p : Prop} (h : p := by (with_reducible repeat (first | apply zz | apply zaa | apply zac)); exact HO359.out) : p := h
theorem zK188 {p : Prop} (h : p := by (try simp only [List.map_toArray, List.map_cons, List.map_nil]); first | done | rfl) : p := h
theorem zK189 {p : Prop} (h : p := by (with_reducible repeat (first | apply zl | apply zm | apply zn)); exact HO302.out) : p := h
theorem zK190 {p : Prop} (h : p := by (with_reducible repeat (first | apply zl | apply zm | apply zn)); exact HO308.out) : p := h
theorem zK191 {p : Prop} (h : p := by (with_reducible repeat (first | apply zl | apply zm | apply zn)); exact HO311.out) : p := h
theorem zK192 {p : Prop} (h : p := by (with_reducible repeat (first | apply zl | apply zm | apply zn)); exact HO318.out) : p := h
theorem zK193 {p : Prop} (h : p := by (with_reducible repeat (first | apply zl | apply zm | apply zn)); exact HO324.out) : p := h
theorem zK194 {p : Prop} (h : p := by (with_reducible repeat (first | apply zl | apply zm | apply zn)); exact HO343.out) : p := h
theorem zK195 {p : Prop} (h : p := by (with_reducible repeat (first | apply zl | apply zm | apply zn)); exact HO356.out) : p := h
theorem zK196 {p : Prop} (h : p := by (with_reducible repeat (first | apply zl | apply zm | apply zn)); exact HO362.out) : p := h
theorem zK197 {p : Prop} (h : p := by (with_reducible repeat (first | apply zl | apply zm | apply zn)); exact HO_0.out) : p := h
theorem zK198 {p : Prop} (h : p := by (with_reducible repeat (first | apply zl | apply zm | apply zn)); exact HO_7.out) : p := h
theorem zK199 {p : Prop} (h : p := by have := za _ _ hx138_0; first | rwa [add_block] at this | exact this) : p := h
theorem zK200 {p : Prop} (h : p := by have := za _ _ hx139_0; first | rwa [add_block] at this | exact this) : p := h
end Go.Proofs.Ytjibigpdbpipcaa.R
