-- squeezed
-- made by pp.py (wip/tools) out of the translation; Lean checks it
import Derived.Test.YtojncbpeeboooaaProg
import Derived.Below
import Derived.Deep.Draws
import Derived.Deep.AppendLies
import Derived.Maps.AppendAt
import Derived.OwnWalk
import Derived.Laws.BytesArg
import Derived.Laws.MakeOwn
import Derived.Laws.OwnMore
import Derived.Deep.OwnRows
import Derived.Tactics
import Derived.Lib.ConvBytes
import Derived.Laws.Slices
import Derived.WalkKit
import Derived.KernelRfl
import Derived.RowKit3
import Derived.Deep.LoopGhost
import Derived.Deep.QuietTactic
import Derived.BigQuiet
import Derived.WideLaws
import Derived.Deep.DeepCutAuto
import Derived.Deep.CutBlock
import Derived.Deep.RegionHeld3
import Derived.Laws.Rows
import Derived.Lib.AppendStr
import Derived.ArgAppend
import Derived.Laws.IdiomCopy
import Derived.OrdersHeld
import Derived.Laws.BitsLemmas
import Derived.RowKit
import Derived.Test.YtojncbpeeboooaaFloat
import Derived.Test.YtojncbpeeboooaaWWords
import Derived.Test.YtojncbpeeboooaaWLast
import Derived.Test.YtojncbpeeboooaaWTab
import Derived.Test.YtojncbpeeboooaaWFour
import Derived.Test.YtojncbpeeboooaaWQPut
import Derived.Test.YtojncbpeeboooaaWApart
import Derived.Test.YtojncbpeeboooaaWArr
import Derived.Test.YtojncbpeeboooaaWZeros
import Derived.Test.YtojncbpeeboooaaWFoot
import Derived.Test.YtojncbpeeboooaaWKept
import Derived.Test.YtojncbpeeboooaaWShare
import Derived.Test.YtojncbpeeboooaaWN
import Derived.Test.YtojncbpeeboooaaWFootNe
import Derived.Test.YtojncbpeeboooaaWAt
import Derived.Test.YtojncbpeeboooaaWEqStruct
import Derived.Test.YtojncbpeeboooaaWRepsOne
import Derived.Test.YtojncbpeeboooaaWInv
import Derived.Test.YtojncbpeeboooaaWInvWords
import Derived.Test.YtojncbpeeboooaaWGuard
import Derived.Test.YtojncbpeeboooaaWNEv
import Derived.Test.YtojncbpeeboooaaWMore
namespace Go.Proofs.Ytojncbpeeboooaa.U
open Go.RowKit Go.Proofs.YtojncbpeeboooaaW.PrintWords Go.Proofs.YtojncbpeeboooaaW.PrintLast Go.Proofs.YtojncbpeeboooaaW.PrintMore
attribute [local go_sem] max2_int min2_int max_two min_two max_three min_three max_four min_four   -- for this text's walks alone
set_option linter.unusedVariables false
set_option linter.unusedSimpArgs false



abbrev q0a := @Kd.heap_pair
abbrev q0b := @Kd.heap_int
abbrev q0c := @Kd.heap_string
abbrev q0d := @Kd.C_get
def errW : Option Int → Value
 | none => .nilIface
 | some c => .iface 0 (.int .i64 c)
theorem errW_none : errW none = .nilIface := rfl
theorem errW_some (c : Int) : errW (some c) = .iface 0 (.int .i64 c) := rfl

theorem info3 : (Try.prog.info? 3).map (fun i => (i.zero, i.size, i.bytes)) = some (some (.int .i64 0), 1, 8) := by kernel_rfl
theorem info5 : (Try.prog.info? 5).map (fun i => (i.zero, i.size, i.bytes)) = some (some (.int .u8 0), 1, 1) := by kernel_rfl
theorem info9 : (Try.prog.info? 9).map (fun i => (i.zero, i.size, i.bytes)) = some (some (.string ⟨#[]⟩), 1, 16) := by kernel_rfl
theorem info72 : (Try.prog.info? 72).map (fun i => (i.zero, i.size, i.bytes)) = some (some (.agg #[(.string ⟨#[]⟩), (.int .i64 0), (.int .i64 0), (.int .i64 0), (.slice none 0 0)]), 5, 64) := by kernel_rfl
theorem info139 : (Try.prog.info? 139).map (fun i => (i.zero, i.size, i.bytes)) = some (some (.agg #[(.int .i64 0), (.int .i64 0), (.string ⟨#[]⟩)]), 3, 32) := by kernel_rfl
-- the values' own types
/-! #### struct type 139 -/
structure S139 where
 f0 : Int
 f1 : Int
 f2 : ByteArray
def z139 : S139 := ⟨(0 : Int), (0 : Int), (⟨#[]⟩ : ByteArray)⟩
def k139 : Kd S139 := Kd.iso (Kd.pair (Kd.int .i64) (Kd.pair (Kd.int .i64) Kd.string)) (fun x : S139 => (x.f0, x.f1, x.f2))
theorem k139_heap : Kd.Heap k139 := Kd.heap_iso _ (q0a (q0b .i64) (q0a (q0b .i64) q0c))
theorem k139_open {w : World} {x : S139} {cs : List Value} (h : k139.K w x cs) : cs = [.int .i64 x.f0, .int .i64 x.f1, .string x.f2] := by
 obtain ⟨_, _, rfl, rfl, ⟨_, _, rfl, rfl, rfl⟩⟩ := h
 exact rfl
theorem k139_openM {w : World} {base : Nat} {ok : Nat → Prop} {x : S139} {cs : List Value} (h : k139.M w base ok x cs) : cs = [.int .i64 x.f0, .int .i64 x.f1, .string x.f2] := by
 obtain ⟨_, _, rfl, rfl, ⟨_, _, rfl, rfl, rfl⟩⟩ := h
 exact rfl
theorem k139_mk (w : World) (x : S139)  : k139.K w x [.int .i64 x.f0, .int .i64 x.f1, .string x.f2] := ⟨[.int .i64 x.f0], [.int .i64 x.f1, .string x.f2], rfl, rfl, ⟨[.int .i64 x.f1], [.string x.f2], rfl, rfl, rfl⟩⟩
theorem k139_mkM (w : World) (base : Nat) (ok : Nat → Prop) (x : S139)  : k139.M w base ok x [.int .i64 x.f0, .int .i64 x.f1, .string x.f2] := ⟨[.int .i64 x.f0], [.int .i64 x.f1, .string x.f2], rfl, rfl, ⟨[.int .i64 x.f1], [.string x.f2], rfl, rfl, rfl⟩⟩
def rd_T139 (xs : List S139) (i : Int) : S139 := xs.getD i.toNat z139
theorem at_T139 {w : World} {A : Option Addr} {n : Nat} {xs : List S139} (h : Kd.C k139 w A n xs) (i : Int) (h0 : 0 ≤ i) (h1 : i < n) : ∃ ad , A = some ad ∧ w.cell? (ad.add (i.toNat * 3)) = some (.int .i64 (rd_T139 xs i).f0) ∧ w.cell? ⟨(ad.add (i.toNat * 3)).block, (ad.add (i.toNat * 3)).off + 1, none⟩ = some (.int .i64 (rd_T139 xs i).f1) ∧ w.cell? ⟨(ad.add (i.toNat * 3)).block, (ad.add (i.toNat * 3)).off + 2, none⟩ = some (.string (rd_T139 xs i).f2) := by
 obtain ⟨ad, c, e, _, hK, hc0⟩ := q0d h z139 i h0 h1
 have hc : ∀ j u, c[j]? = some u → w.cell? (ad.add (i.toNat * 3 + j)) = some u := hc0
 obtain rfl := k139_open hK
 exact ⟨ad, e, hc 0 _ rfl, by rw [← add_field _ _ 1 (by omega)]; exact hc 1 _ rfl, by rw [← add_field _ _ 2 (by omega)]; exact hc 2 _ rfl⟩

def rd_L3 (xs : List (List ByteArray)) (i : Int) : (List ByteArray) := xs.getD i.toNat ([] : List ByteArray)
theorem at_L3 {w : World} {A : Option Addr} {n : Nat} {xs : List (List ByteArray)} (h : Kd.C (Kd.slice 9 Kd.string) w A n xs) (i : Int) (h0 : 0 ≤ i) (h1 : i < n) : ∃ ad A0 c0, A = some ad ∧ w.cell? (ad.add i.toNat) = some (.slice A0 (rd_L3 xs i).length c0) ∧ (rd_L3 xs i).length ≤ c0 ∧ Kd.string.C w A0 (rd_L3 xs i).length (rd_L3 xs i) := by
 obtain ⟨ad, c, e, _, hK, hc0⟩ := q0d h ([] : List ByteArray) i h0 h1
 have hc : ∀ j u, c[j]? = some u → w.cell? (ad.add (i.toNat * 1 + j)) = some u := hc0
 obtain ⟨A0, c0, rfl, l0, g0⟩ := hK
 exact ⟨ad, A0, c0, e, by have hq := hc 0 _ rfl; rwa [Nat.mul_one, Nat.add_zero] at hq, l0, g0⟩

/-! #### struct type 72 -/
structure S72 where
 f0 : ByteArray
 f1 : Int
 f2 : Int
 f3 : Int
 f4 : (List ByteArray)
def z72 : S72 := ⟨(⟨#[]⟩ : ByteArray), (0 : Int), (0 : Int), (0 : Int), ([] : List ByteArray)⟩
def k72 : Kd S72 := Kd.iso (Kd.pair Kd.string (Kd.pair (Kd.int .i64) (Kd.pair (Kd.int .i64) (Kd.pair (Kd.int .i64) (Kd.slice 9 Kd.string))))) (fun x : S72 => (x.f0, x.f1, x.f2, x.f3, x.f4))
theorem k72_heap : Kd.Heap k72 := Kd.heap_iso _ (q0a q0c (q0a (q0b .i64) (q0a (q0b .i64) (q0a (q0b .i64) (Kd.heap_slice 9 q0c)))))
theorem k72_open {w : World} {x : S72} {cs : List Value} (h : k72.K w x cs) : ∃ A4 c4, cs = [.string x.f0, .int .i64 x.f1, .int .i64 x.f2, .int .i64 x.f3, .slice A4 x.f4.length c4] ∧ x.f4.length ≤ c4 ∧ Kd.string.C w A4 x.f4.length x.f4 := by
 obtain ⟨_, _, rfl, rfl, ⟨_, _, rfl, rfl, ⟨_, _, rfl, rfl, ⟨_, _, rfl, rfl, ⟨A4, c4, rfl, l4, g4⟩⟩⟩⟩⟩ := h
 exact ⟨A4, c4, rfl, l4, g4⟩
theorem k72_openM {w : World} {base : Nat} {ok : Nat → Prop} {x : S72} {cs : List Value} (h : k72.M w base ok x cs) : ∃ v4, cs = [.string x.f0, .int .i64 x.f1, .int .i64 x.f2, .int .i64 x.f3, v4] ∧ Kd.string.R 9 w base ok v4 x.f4 := by
 obtain ⟨_, _, rfl, rfl, ⟨_, _, rfl, rfl, ⟨_, _, rfl, rfl, ⟨_, _, rfl, rfl, ⟨v4, rfl, g4⟩⟩⟩⟩⟩ := h
 exact ⟨v4, rfl, g4⟩
theorem k72_mk (w : World) (x : S72) {A4 : Option Addr} {c4 : Nat} (l4 : x.f4.length ≤ c4) (g4 : Kd.string.C w A4 x.f4.length x.f4) : k72.K w x [.string x.f0, .int .i64 x.f1, .int .i64 x.f2, .int .i64 x.f3, .slice A4 x.f4.length c4] := ⟨[.string x.f0], [.int .i64 x.f1, .int .i64 x.f2, .int .i64 x.f3, .slice A4 x.f4.length c4], rfl, rfl, ⟨[.int .i64 x.f1], [.int .i64 x.f2, .int .i64 x.f3, .slice A4 x.f4.length c4], rfl, rfl, ⟨[.int .i64 x.f2], [.int .i64 x.f3, .slice A4 x.f4.length c4], rfl, rfl, ⟨[.int .i64 x.f3], [.slice A4 x.f4.length c4], rfl, rfl, ⟨A4, c4, rfl, l4, g4⟩⟩⟩⟩⟩
theorem k72_mkM (w : World) (base : Nat) (ok : Nat → Prop) (x : S72) {v4 : Value} (g4 : Kd.string.R 9 w base ok v4 x.f4) : k72.M w base ok x [.string x.f0, .int .i64 x.f1, .int .i64 x.f2, .int .i64 x.f3, v4] := ⟨[.string x.f0], [.int .i64 x.f1, .int .i64 x.f2, .int .i64 x.f3, v4], rfl, rfl, ⟨[.int .i64 x.f1], [.int .i64 x.f2, .int .i64 x.f3, v4], rfl, rfl, ⟨[.int .i64 x.f2], [.int .i64 x.f3, v4], rfl, rfl, ⟨[.int .i64 x.f3], [v4], rfl, rfl, ⟨v4, rfl, g4⟩⟩⟩⟩⟩
def rd_T72 (xs : List S72) (i : Int) : S72 := xs.getD i.toNat z72
theorem at_T72 {w : World} {A : Option Addr} {n : Nat} {xs : List S72} (h : Kd.C k72 w A n xs) (i : Int) (h0 : 0 ≤ i) (h1 : i < n) : ∃ ad A4 c4, A = some ad ∧ w.cell? (ad.add (i.toNat * 5)) = some (.string (rd_T72 xs i).f0) ∧ w.cell? ⟨(ad.add (i.toNat * 5)).block, (ad.add (i.toNat * 5)).off + 1, none⟩ = some (.int .i64 (rd_T72 xs i).f1) ∧ w.cell? ⟨(ad.add (i.toNat * 5)).block, (ad.add (i.toNat * 5)).off + 2, none⟩ = some (.int .i64 (rd_T72 xs i).f2) ∧ w.cell? ⟨(ad.add (i.toNat * 5)).block, (ad.add (i.toNat * 5)).off + 3, none⟩ = some (.int .i64 (rd_T72 xs i).f3) ∧ w.cell? ⟨(ad.add (i.toNat * 5)).block, (ad.add (i.toNat * 5)).off + 4, none⟩ = some (.slice A4 (rd_T72 xs i).f4.length c4) ∧ (rd_T72 xs i).f4.length ≤ c4 ∧ Kd.string.C w A4 (rd_T72 xs i).f4.length (rd_T72 xs i).f4 := by
 obtain ⟨ad, c, e, _, hK, hc0⟩ := q0d h z72 i h0 h1
 have hc : ∀ j u, c[j]? = some u → w.cell? (ad.add (i.toNat * 5 + j)) = some u := hc0
 obtain ⟨A4, c4, rfl, l4, g4⟩ := k72_open hK
 exact ⟨ad, A4, c4, e, hc 0 _ rfl, by rw [← add_field _ _ 1 (by omega)]; exact hc 1 _ rfl, by rw [← add_field _ _ 2 (by omega)]; exact hc 2 _ rfl, by rw [← add_field _ _ 3 (by omega)]; exact hc 3 _ rfl, by rw [← add_field _ _ 4 (by omega)]; exact hc 4 _ rfl, l4, g4⟩

/-! #### struct type 159 -/
structure S159 where
 f0 : Int
 f1 : Int
 f2 : ByteArray
def z159 : S159 := ⟨(0 : Int), (0 : Int), (⟨#[]⟩ : ByteArray)⟩
def k159 : Kd S159 := Kd.iso (Kd.pair (Kd.int .i64) (Kd.pair (Kd.int .i64) Kd.string)) (fun x : S159 => (x.f0, x.f1, x.f2))
theorem k159_heap : Kd.Heap k159 := Kd.heap_iso _ (q0a (q0b .i64) (q0a (q0b .i64) q0c))
theorem k159_open {w : World} {x : S159} {cs : List Value} (h : k159.K w x cs) : cs = [.int .i64 x.f0, .int .i64 x.f1, .string x.f2] := by
 obtain ⟨_, _, rfl, rfl, ⟨_, _, rfl, rfl, rfl⟩⟩ := h
 exact rfl
theorem k159_openM {w : World} {base : Nat} {ok : Nat → Prop} {x : S159} {cs : List Value} (h : k159.M w base ok x cs) : cs = [.int .i64 x.f0, .int .i64 x.f1, .string x.f2] := by
 obtain ⟨_, _, rfl, rfl, ⟨_, _, rfl, rfl, rfl⟩⟩ := h
 exact rfl
theorem k159_mk (w : World) (x : S159)  : k159.K w x [.int .i64 x.f0, .int .i64 x.f1, .string x.f2] := ⟨[.int .i64 x.f0], [.int .i64 x.f1, .string x.f2], rfl, rfl, ⟨[.int .i64 x.f1], [.string x.f2], rfl, rfl, rfl⟩⟩
theorem k159_mkM (w : World) (base : Nat) (ok : Nat → Prop) (x : S159)  : k159.M w base ok x [.int .i64 x.f0, .int .i64 x.f1, .string x.f2] := ⟨[.int .i64 x.f0], [.int .i64 x.f1, .string x.f2], rfl, rfl, ⟨[.int .i64 x.f1], [.string x.f2], rfl, rfl, rfl⟩⟩
def rd_T159 (xs : List S159) (i : Int) : S159 := xs.getD i.toNat z159
theorem at_T159 {w : World} {A : Option Addr} {n : Nat} {xs : List S159} (h : Kd.C k159 w A n xs) (i : Int) (h0 : 0 ≤ i) (h1 : i < n) : ∃ ad , A = some ad ∧ w.cell? (ad.add (i.toNat * 3)) = some (.int .i64 (rd_T159 xs i).f0) ∧ w.cell? ⟨(ad.add (i.toNat * 3)).block, (ad.add (i.toNat * 3)).off + 1, none⟩ = some (.int .i64 (rd_T159 xs i).f1) ∧ w.cell? ⟨(ad.add (i.toNat * 3)).block, (ad.add (i.toNat * 3)).off + 2, none⟩ = some (.string (rd_T159 xs i).f2) := by
 obtain ⟨ad, c, e, _, hK, hc0⟩ := q0d h z159 i h0 h1
 have hc : ∀ j u, c[j]? = some u → w.cell? (ad.add (i.toNat * 3 + j)) = some u := hc0
 obtain rfl := k159_open hK
 exact ⟨ad, e, hc 0 _ rfl, by rw [← add_field _ _ 1 (by omega)]; exact hc 1 _ rfl, by rw [← add_field _ _ 2 (by omega)]; exact hc 2 _ rfl⟩

/-! #### struct type 161 -/
structure S161 where
 f0 : ByteArray
 f1 : Int
 f2 : Int
 f3 : Int
 f4 : (List ByteArray)
def z161 : S161 := ⟨(⟨#[]⟩ : ByteArray), (0 : Int), (0 : Int), (0 : Int), ([] : List ByteArray)⟩
def k161 : Kd S161 := Kd.iso (Kd.pair Kd.string (Kd.pair (Kd.int .i64) (Kd.pair (Kd.int .i64) (Kd.pair (Kd.int .i64) (Kd.slice 9 Kd.string))))) (fun x : S161 => (x.f0, x.f1, x.f2, x.f3, x.f4))
theorem k161_heap : Kd.Heap k161 := Kd.heap_iso _ (q0a q0c (q0a (q0b .i64) (q0a (q0b .i64) (q0a (q0b .i64) (Kd.heap_slice 9 q0c)))))
theorem k161_open {w : World} {x : S161} {cs : List Value} (h : k161.K w x cs) : ∃ A4 c4, cs = [.string x.f0, .int .i64 x.f1, .int .i64 x.f2, .int .i64 x.f3, .slice A4 x.f4.length c4] ∧ x.f4.length ≤ c4 ∧ Kd.string.C w A4 x.f4.length x.f4 := by
 obtain ⟨_, _, rfl, rfl, ⟨_, _, rfl, rfl, ⟨_, _, rfl, rfl, ⟨_, _, rfl, rfl, ⟨A4, c4, rfl, l4, g4⟩⟩⟩⟩⟩ := h
 exact ⟨A4, c4, rfl, l4, g4⟩
theorem k161_openM {w : World} {base : Nat} {ok : Nat → Prop} {x : S161} {cs : List Value} (h : k161.M w base ok x cs) : ∃ v4, cs = [.string x.f0, .int .i64 x.f1, .int .i64 x.f2, .int .i64 x.f3, v4] ∧ Kd.string.R 9 w base ok v4 x.f4 := by
 obtain ⟨_, _, rfl, rfl, ⟨_, _, rfl, rfl, ⟨_, _, rfl, rfl, ⟨_, _, rfl, rfl, ⟨v4, rfl, g4⟩⟩⟩⟩⟩ := h
 exact ⟨v4, rfl, g4⟩
theorem k161_mk (w : World) (x : S161) {A4 : Option Addr} {c4 : Nat} (l4 : x.f4.length ≤ c4) (g4 : Kd.string.C w A4 x.f4.length x.f4) : k161.K w x [.string x.f0, .int .i64 x.f1, .int .i64 x.f2, .int .i64 x.f3, .slice A4 x.f4.length c4] := ⟨[.string x.f0], [.int .i64 x.f1, .int .i64 x.f2, .int .i64 x.f3, .slice A4 x.f4.length c4], rfl, rfl, ⟨[.int .i64 x.f1], [.int .i64 x.f2, .int .i64 x.f3, .slice A4 x.f4.length c4], rfl, rfl, ⟨[.int .i64 x.f2], [.int .i64 x.f3, .slice A4 x.f4.length c4], rfl, rfl, ⟨[.int .i64 x.f3], [.slice A4 x.f4.length c4], rfl, rfl, ⟨A4, c4, rfl, l4, g4⟩⟩⟩⟩⟩
theorem k161_mkM (w : World) (base : Nat) (ok : Nat → Prop) (x : S161) {v4 : Value} (g4 : Kd.string.R 9 w base ok v4 x.f4) : k161.M w base ok x [.string x.f0, .int .i64 x.f1, .int .i64 x.f2, .int .i64 x.f3, v4] := ⟨[.string x.f0], [.int .i64 x.f1, .int .i64 x.f2, .int .i64 x.f3, v4], rfl, rfl, ⟨[.int .i64 x.f1], [.int .i64 x.f2, .int .i64 x.f3, v4], rfl, rfl, ⟨[.int .i64 x.f2], [.int .i64 x.f3, v4], rfl, rfl, ⟨[.int .i64 x.f3], [v4], rfl, rfl, ⟨v4, rfl, g4⟩⟩⟩⟩⟩
def rd_T161 (xs : List S161) (i : Int) : S161 := xs.getD i.toNat z161
theorem at_T161 {w : World} {A : Option Addr} {n : Nat} {xs : List S161} (h : Kd.C k161 w A n xs) (i : Int) (h0 : 0 ≤ i) (h1 : i < n) : ∃ ad A4 c4, A = some ad ∧ w.cell? (ad.add (i.toNat * 5)) = some (.string (rd_T161 xs i).f0) ∧ w.cell? ⟨(ad.add (i.toNat * 5)).block, (ad.add (i.toNat * 5)).off + 1, none⟩ = some (.int .i64 (rd_T161 xs i).f1) ∧ w.cell? ⟨(ad.add (i.toNat * 5)).block, (ad.add (i.toNat * 5)).off + 2, none⟩ = some (.int .i64 (rd_T161 xs i).f2) ∧ w.cell? ⟨(ad.add (i.toNat * 5)).block, (ad.add (i.toNat * 5)).off + 3, none⟩ = some (.int .i64 (rd_T161 xs i).f3) ∧ w.cell? ⟨(ad.add (i.toNat * 5)).block, (ad.add (i.toNat * 5)).off + 4, none⟩ = some (.slice A4 (rd_T161 xs i).f4.length c4) ∧ (rd_T161 xs i).f4.length ≤ c4 ∧ Kd.string.C w A4 (rd_T161 xs i).f4.length (rd_T161 xs i).f4 := by
 obtain ⟨ad, c, e, _, hK, hc0⟩ := q0d h z161 i h0 h1
 have hc : ∀ j u, c[j]? = some u → w.cell? (ad.add (i.toNat * 5 + j)) = some u := hc0
 obtain ⟨A4, c4, rfl, l4, g4⟩ := k161_open hK
 exact ⟨ad, A4, c4, e, hc 0 _ rfl, by rw [← add_field _ _ 1 (by omega)]; exact hc 1 _ rfl, by rw [← add_field _ _ 2 (by omega)]; exact hc 2 _ rfl, by rw [← add_field _ _ 3 (by omega)]; exact hc 3 _ rfl, by rw [← add_field _ _ 4 (by omega)]; exact hc 4 _ rfl, l4, g4⟩

def rd_L8 (xs : List (List S72)) (i : Int) : (List S72) := xs.getD i.toNat ([] : List S72)
theorem at_L8 {w : World} {A : Option Addr} {n : Nat} {xs : List (List S72)} (h : Kd.C (Kd.slice 72 k72) w A n xs) (i : Int) (h0 : 0 ≤ i) (h1 : i < n) : ∃ ad A0 c0, A = some ad ∧ w.cell? (ad.add i.toNat) = some (.slice A0 (rd_L8 xs i).length c0) ∧ (rd_L8 xs i).length ≤ c0 ∧ k72.C w A0 (rd_L8 xs i).length (rd_L8 xs i) := by
 obtain ⟨ad, c, e, _, hK, hc0⟩ := q0d h ([] : List S72) i h0 h1
 have hc : ∀ j u, c[j]? = some u → w.cell? (ad.add (i.toNat * 1 + j)) = some u := hc0
 obtain ⟨A0, c0, rfl, l0, g0⟩ := hK
 exact ⟨ad, A0, c0, e, by have hq := hc 0 _ rfl; rwa [Nat.mul_one, Nat.add_zero] at hq, l0, g0⟩

def rd_L9 (xs : List (List S159)) (i : Int) : (List S159) := xs.getD i.toNat ([] : List S159)
theorem at_L9 {w : World} {A : Option Addr} {n : Nat} {xs : List (List S159)} (h : Kd.C (Kd.slice 159 k159) w A n xs) (i : Int) (h0 : 0 ≤ i) (h1 : i < n) : ∃ ad A0 c0, A = some ad ∧ w.cell? (ad.add i.toNat) = some (.slice A0 (rd_L9 xs i).length c0) ∧ (rd_L9 xs i).length ≤ c0 ∧ k159.C w A0 (rd_L9 xs i).length (rd_L9 xs i) := by
 obtain ⟨ad, c, e, _, hK, hc0⟩ := q0d h ([] : List S159) i h0 h1
 have hc : ∀ j u, c[j]? = some u → w.cell? (ad.add (i.toNat * 1 + j)) = some u := hc0
 obtain ⟨A0, c0, rfl, l0, g0⟩ := hK
 exact ⟨ad, A0, c0, e, by have hq := hc 0 _ rfl; rwa [Nat.mul_one, Nat.add_zero] at hq, l0, g0⟩

def rd_L10 (xs : List (List S161)) (i : Int) : (List S161) := xs.getD i.toNat ([] : List S161)
theorem at_L10 {w : World} {A : Option Addr} {n : Nat} {xs : List (List S161)} (h : Kd.C (Kd.slice 161 k161) w A n xs) (i : Int) (h0 : 0 ≤ i) (h1 : i < n) : ∃ ad A0 c0, A = some ad ∧ w.cell? (ad.add i.toNat) = some (.slice A0 (rd_L10 xs i).length c0) ∧ (rd_L10 xs i).length ≤ c0 ∧ k161.C w A0 (rd_L10 xs i).length (rd_L10 xs i) := by
 obtain ⟨ad, c, e, _, hK, hc0⟩ := q0d h ([] : List S161) i h0 h1
 have hc : ∀ j u, c[j]? = some u → w.cell? (ad.add (i.toNat * 1 + j)) = some u := hc0
 obtain ⟨A0, c0, rfl, l0, g0⟩ := hK
 exact ⟨ad, A0, c0, e, by have hq := hc 0 _ rfl; rwa [Nat.mul_one, Nat.add_zero] at hq, l0, g0⟩

-- aliases
theorem zO {p : Prop} [Decidable p] (h : decide p = true := by first | (with_reducible assumption) | assumption) : p := of_decide_eq_true h
abbrev za := @World.block_lt_of_cell?
abbrev zb := @Aside0.mk
abbrev zc := @pw_below_drewN
abbrev zd := @below_drew1
abbrev ze := @below_alloc
abbrev zf := @blk_drewN
abbrev zg := @blk_alloc
abbrev zh := @below_set
abbrev zi := @blk_drew
abbrev zj := @blk_frozen
abbrev zk := @blk_cell
abbrev zl := @Kd.R_alloc
abbrev zm := @Kd.R_drewN
abbrev zn := @Kd.R_drew
abbrev zo := @below_size
abbrev zp := @below_step
abbrev zq := @blk_below
abbrev zr := @Kd.R_below
abbrev zs := @blk_put
abbrev zt := @Kd.C_alloc
abbrev zu := @Kd.C_drewN
abbrev zv := @Kd.C_drew
abbrev zw := @blk_far
abbrev zx := @Kd.R_mono
abbrev zy := @Kd.R_far
abbrev zz := @Kd.C_below
abbrev zaa := @blk_lt
abbrev zab := @Kd.R_types
abbrev zac := @Kd.S_alloc
abbrev zad := @Kd.S_drewN
abbrev zae := @Kd.S_drew
abbrev zaf := @Kd.R_slice
abbrev zag := @Kd.C_kept_now
abbrev zah := @Kd.R_lower
abbrev zai := @Kd.S_below
abbrev zaj := @Kd.R_lt
abbrev zak := @Kd.R_base
abbrev zal := @Kd.at_string
abbrev zam := @Kd.R_elder'
abbrev zan := @blk_kept
abbrev zao := @Kd.S_reads'
abbrev zap := @Kd.at_int
abbrev zaq := @Kd.R_ne
abbrev zar := @Kd.R_new'
abbrev zas := @Kd.R_tight
abbrev zat := @Kd.R_keptB
abbrev zau := @Kd.S_mono
abbrev zav := @Kept.of_grown
abbrev zaw := @Kd.S_far
abbrev zax := @Kd.C_kept_came
abbrev zay := @Kd.R_after
abbrev zaz := @Kd.R_nil
abbrev zba := @Kd.R_typed
abbrev zbb := @blk_grown
abbrev zbc := @Kd.R_reok
abbrev zbd := @Kd.R_elem
abbrev zbe := @Kd.S_types
abbrev zbf := @Kd.R_newM
abbrev zbg := @Kd.S_lower
abbrev zbh := @Kd.R_lit
abbrev zbi := @Kd.C_kept_call
abbrev zbj := @Kd.S_slice
theorem zG62 {p : Prop} (h : p := by repeat (first | (with_reducible first | exact HK.out | apply Kept.alloc | apply Kept.drewN | apply Kept.drew | refine Kept.setCell ?_ (.inl (Or.inl (Or.inr rfl))) _ | refine Kept.setCell ?_ (.inl (Or.inr rfl)) _) | exact HK.out)) : p := h
theorem zG63 {p : Prop} (h : p := by repeat (first | (with_reducible first | exact HB.out | apply ze | apply zc | apply zd | refine zh ?_ GE1.out | refine zh ?_ GE2.out | refine zh ?_ GE3.out | refine zh ?_ GE4.out | refine zh ?_ GE5.out) | exact HB.out)) : p := h
theorem zG64 {p : Prop} (h : p := by repeat (first | (with_reducible first | exact HB.out | apply ze | apply zc | apply zd | refine zh ?_ GE180.out | refine zh ?_ GE181.out | refine zh ?_ GE182.out) | exact HB.out)) : p := h
theorem zG65 {p : Prop} (h : p := by repeat (first | (with_reducible first | exact HK.out | apply Kept.alloc | apply Kept.drewN | apply Kept.drew | refine Kept.setCell ?_ (.inl (Or.inr rfl)) _) | exact HK.out)) : p := h
theorem zG66 {p : Prop} (h : p := by repeat (first | (with_reducible first | exact HB.out | apply ze | apply zc | apply zd | refine zh ?_ GE341.out | refine zh ?_ GE353.out) | exact HB.out)) : p := h
theorem zG67 {p : Prop} (h : p := by (try simp only [List.map_toArray, List.map_cons, List.map_nil]); first | done | rfl | (simp only [List.length_drop, List.length_take]; rfl)) : p := h
theorem zG68 {p : Prop} (h : p := by repeat (first | (with_reducible first | exact HB.out | apply ze | apply zc | apply zd | refine zh ?_ GE341.out) | exact HB.out)) : p := h
theorem zG69 {p : Prop} (h : p := by repeat (first | (with_reducible first | exact HB.out | apply ze | apply zc | apply zd | refine zh ?_ GE308.out) | exact HB.out)) : p := h
theorem zG70 {p : Prop} (h : p := by repeat (first | (with_reducible first | exact HB.out | apply ze | apply zc | apply zd | refine zh ?_ GE301.out) | exact HB.out)) : p := h
theorem zG71 {p : Prop} (h : p := by repeat (first | (with_reducible first | exact HB.out | apply ze | apply zc | apply zd | refine zh ?_ GE0.out) | exact HB.out)) : p := h
theorem zG72 {p : Prop} (h : p := by first | (rw [add_block]; exact hn217_0) | (show (Addr.add _ _).block ≠ _; rw [add_block]; exact hn217_0) | exact hn217_0) : p := h
theorem zG73 {p : Prop} (h : p := by first | (rw [add_block]; exact hn217_1) | (show (Addr.add _ _).block ≠ _; rw [add_block]; exact hn217_1) | exact hn217_1) : p := h
theorem zG74 {p : Prop} (h : p := by first | (rw [add_block]; exact hn217_2) | (show (Addr.add _ _).block ≠ _; rw [add_block]; exact hn217_2) | exact hn217_2) : p := h
theorem zG75 {p : Prop} (h : p := by first | (rw [add_block]; exact hn217_3) | (show (Addr.add _ _).block ≠ _; rw [add_block]; exact hn217_3) | exact hn217_3) : p := h
theorem zG76 {p : Prop} (h : p := by first | (rw [add_block]; exact hn217_4) | (show (Addr.add _ _).block ≠ _; rw [add_block]; exact hn217_4) | exact hn217_4) : p := h
theorem zG77 {p : Prop} (h : p := by repeat (first | (with_reducible first | exact HB.out | apply ze | apply zc | apply zd) | exact HB.out)) : p := h
theorem zG78 {p : Prop} (h : p := by (with_reducible repeat (first | refine zf ?_ _ | refine zi ?_ | refine zg ?_ _)); exact BK341.out) : p := h
theorem zG79 {p : Prop} (h : p := by (with_reducible repeat (first | refine zf ?_ _ | refine zi ?_ | refine zg ?_ _)); exact BK353.out) : p := h
theorem zG80 {p : Prop} (h : p := by (with_reducible repeat (first | refine zf ?_ _ | refine zi ?_ | refine zg ?_ _)); exact BK243.out) : p := h
theorem zG81 {p : Prop} (h : p := by (with_reducible repeat (first | refine zf ?_ _ | refine zi ?_ | refine zg ?_ _)); exact BK180.out) : p := h
theorem zG82 {p : Prop} (h : p := by (with_reducible repeat (first | refine zf ?_ _ | refine zi ?_ | refine zg ?_ _)); exact BK181.out) : p := h
theorem zG83 {p : Prop} (h : p := by (with_reducible repeat (first | refine zf ?_ _ | refine zi ?_ | refine zg ?_ _)); exact BK182.out) : p := h
theorem zG84 {p : Prop} (h : p := by (with_reducible repeat (first | refine zf ?_ _ | refine zi ?_ | refine zg ?_ _)); exact BK308.out) : p := h
theorem zG85 {p : Prop} (h : p := by (with_reducible repeat (first | refine zf ?_ _ | refine zi ?_ | refine zg ?_ _)); exact BK3.out) : p := h
theorem zG86 {p : Prop} (h : p := by (with_reducible repeat (first | refine zf ?_ _ | refine zi ?_ | refine zg ?_ _)); exact BK4.out) : p := h
theorem zG87 {p : Prop} (h : p := by (with_reducible repeat (first | apply zl | apply zm | apply zn)); exact HO_342000.out) : p := h
theorem zG88 {p : Prop} (h : p := by (with_reducible repeat (first | apply zl | apply zm | apply zn)); exact HO_354000.out) : p := h
theorem zG89 {p : Prop} (h : p := by (with_reducible repeat (first | apply zl | apply zm | apply zn)); exact HO_8.out) : p := h
theorem zG90 {p : Prop} (h : p := by (with_reducible repeat (first | apply zl | apply zm | apply zn)); exact HO_1.out) : p := h
theorem zG91 {p : Prop} (h : p := by have := za _ _ hw152_0; first | rwa [add_block] at this | exact this) : p := h
theorem zG92 {p : Prop} (h : p := by have := za _ _ hw152_1; first | rwa [add_block] at this | exact this) : p := h
theorem zG93 {p : Prop} (h : p := by have := za _ _ hw152_2; first | rwa [add_block] at this | exact this) : p := h
theorem zG94 {p : Prop} (h : p := by have := za _ _ hw153_0; first | rwa [add_block] at this | exact this) : p := h
theorem zG95 {p : Prop} (h : p := by have := za _ _ hw153_1; first | rwa [add_block] at this | exact this) : p := h
theorem zG96 {p : Prop} (h : p := by have := za _ _ hw153_2; first | rwa [add_block] at this | exact this) : p := h
theorem zG97 {p : Prop} (h : p := by have := za _ _ hw153_3; first | rwa [add_block] at this | exact this) : p := h
theorem zG98 {p : Prop} (h : p := by have := za _ _ hw153_4; first | rwa [add_block] at this | exact this) : p := h
theorem zG99 {p : Prop} (h : p := by have := za _ _ hx217_0; first | rwa [add_block] at this | exact this) : p := h
theorem zG100 {p : Prop} (h : p := by first | rfl | (simp; done) | (simp [*]; done)) : p := h
theorem zG101 {p : Prop} (h : p := by kernel_rfl) : p := h
-- pressed
abbrev zA_ := @And.intro
-- pressed twice
theorem zAi {a b c : Prop} (h : a → b → c) : a ∧ b → c := fun x => h x.1 x.2
theorem zP {P : Program} {ops : Array Oper} {Q : Exit → Act → World → Prop} {md : Region.Mode} {S : World → Prop} {ds : List Nat} {T : Bool × List (List Nat × List Nat)} {oi : Oper} {v : Value} {fuel : Nat} {l : Array Bool} {a a' : Act} {w : World} (i : Nat) (N : Tmp) (l' : Array Bool) (hT : Aside0 (rtab md ops = T)) (h : wpAnyLast P md ops Q S ds fuel l' a' w) (hi : ops[i]? = some oi := by rfl) (hN : oi.dst = some N := by rfl) (hc : anyT T l.toList l'.toList i = true := by kernel_rfl) (hQ : ∀ c a w, Q (.panic c) (a.put oi.dst v) w → Q (.panic c) a w := by exact fun _ _ _ h => h) (hw : Region.wanted oi (yielded ops a.tmps) = true := by rfl) (hy : ∀ w, (execOp a.eval oi).run P w = .ok (.value v) w := by intro w'; go_simp; with_reducible rfl) (ha : a.put (some N) v = a' := by simp only [Act.put, List.setIfInBounds_toArray, List.set_cons_zero, List.set_cons_succ, i64_w, i32_w]; rfl) : wpAnyLast P md ops Q S ds (fuel + 1) l a w := pure_ l' hi hN (any_of hT.out hc) hQ (Or.inl ⟨hw, hy⟩) ha h
theorem zQ {P : Program} {ops : Array Oper} {Q : Exit → Act → World → Prop} {md : Region.Mode} {S : World → Prop} {ds : List Nat} {T : Bool × List (List Nat × List Nat)} {oi : Oper} {v : Value} {fuel : Nat} {l : Array Bool} {a a' : Act} {w : World} {B : List Nat} (i : Nat) (N : Tmp) (l' : Array Bool) (hT : Aside0 (rtab md ops = T)) (hW : Aside0 (waitsOk T.2 B = true)) (hS : S w) (h : wpAnyLast P md ops Q S ds fuel l' a' w) (hi : ops[i]? = some oi := by rfl) (hN : oi.dst = some N := by rfl) (hc : takeW T B ds l.toList l'.toList i = true := by kernel_rfl) (hQ : ∀ c a w, Q (.panic c) (a.put oi.dst v) w → Q (.panic c) a w := by exact fun _ _ _ h => h) (hw : Region.wanted oi (yielded ops a.tmps) = true := by rfl) (hy : ∀ w, S w → (execOp a.eval oi).run P w = .ok (.value v) w := by intro w'; (repeat (refine zAi ?_; intro _)); intro _; go_simp; with_reducible rfl) (ha : a.put (some N) v = a' := by simp only [Act.put, List.setIfInBounds_toArray, List.set_cons_zero, List.set_cons_succ, i64_w, i32_w]; rfl) : wpAnyLast P md ops Q S ds (fuel + 1) l a w := take_ l' hi hN (take_ofW hT.out hW.out hc) hQ (Or.inl ⟨hw, hy⟩) hS ha h
theorem zU {P : Program} {ops : Array Oper} {Q : Exit → Act → World → Prop} {md : Region.Mode} {S : World → Prop} {ds : List Nat} {T : Bool × List (List Nat × List Nat)} {oi : Oper} {fuel : Nat} {l : Array Bool} {a a' : Act} {w : World} (i : Nat) (N : Tmp) (l' : Array Bool) (hT : Aside0 (rtab md ops = T)) (h : wpAnyLast P md ops Q S ds fuel l' a' w) (hi : ops[i]? = some oi := by rfl) (hN : oi.dst = some N := by rfl) (hc : anyT T l.toList l'.toList i = true := by kernel_rfl) (hQ : ∀ c a w, Q (.panic c) (a.put oi.dst undef) w → Q (.panic c) a w := by exact fun _ _ _ h => h) (hw : Region.wanted oi (yielded ops a.tmps) = false := by rfl) (ha : a.put (some N) undef = a' := by simp only [Act.put, List.setIfInBounds_toArray, List.set_cons_zero, List.set_cons_succ, i64_w, i32_w]; rfl) : wpAnyLast P md ops Q S ds (fuel + 1) l a w := pure_ l' hi hN (any_of hT.out hc) hQ (Or.inr ⟨hw, rfl⟩) ha h
def zM (n m : Nat) : Array Bool := ⟨(List.range n).map (fun i => Nat.testBit m i)⟩
theorem zB1 {w : World} {g : Nat} {t : TypeId} {v0 : Value} (h : w.heap[g]? = some (.cells #[v0] t (0, 0))) : w.cell? ⟨g, 0, none⟩ = some v0 ∧ w.frozen? ⟨g, 0, none⟩ = false := ⟨(blk_cell h 0).trans rfl, blk_frozen h 0⟩
theorem zB2 {w : World} {g : Nat} {t : TypeId} {v0 v1 : Value} (h : w.heap[g]? = some (.cells #[v0, v1] t (0, 0))) : w.cell? ⟨g, 0, none⟩ = some v0 ∧ w.cell? ⟨g, 1, none⟩ = some v1 ∧ w.frozen? ⟨g, 0, none⟩ = false ∧ w.frozen? ⟨g, 1, none⟩ = false := ⟨(blk_cell h 0).trans rfl, (blk_cell h 1).trans rfl, blk_frozen h 0, blk_frozen h 1⟩
theorem zB3 {w : World} {g : Nat} {t : TypeId} {v0 v1 v2 : Value} (h : w.heap[g]? = some (.cells #[v0, v1, v2] t (0, 0))) : w.cell? ⟨g, 0, none⟩ = some v0 ∧ w.cell? ⟨g, 1, none⟩ = some v1 ∧ w.cell? ⟨g, 2, none⟩ = some v2 ∧ w.frozen? ⟨g, 0, none⟩ = false ∧ w.frozen? ⟨g, 1, none⟩ = false ∧ w.frozen? ⟨g, 2, none⟩ = false := ⟨(blk_cell h 0).trans rfl, (blk_cell h 1).trans rfl, (blk_cell h 2).trans rfl, blk_frozen h 0, blk_frozen h 1, blk_frozen h 2⟩
theorem zB5 {w : World} {g : Nat} {t : TypeId} {v0 v1 v2 v3 v4 : Value} (h : w.heap[g]? = some (.cells #[v0, v1, v2, v3, v4] t (0, 0))) : w.cell? ⟨g, 0, none⟩ = some v0 ∧ w.cell? ⟨g, 1, none⟩ = some v1 ∧ w.cell? ⟨g, 2, none⟩ = some v2 ∧ w.cell? ⟨g, 3, none⟩ = some v3 ∧ w.cell? ⟨g, 4, none⟩ = some v4 ∧ w.frozen? ⟨g, 0, none⟩ = false ∧ w.frozen? ⟨g, 1, none⟩ = false ∧ w.frozen? ⟨g, 2, none⟩ = false ∧ w.frozen? ⟨g, 3, none⟩ = false ∧ w.frozen? ⟨g, 4, none⟩ = false := ⟨(blk_cell h 0).trans rfl, (blk_cell h 1).trans rfl, (blk_cell h 2).trans rfl, (blk_cell h 3).trans rfl, (blk_cell h 4).trans rfl, blk_frozen h 0, blk_frozen h 1, blk_frozen h 2, blk_frozen h 3, blk_frozen h 4⟩
theorem zN1 (p : Nat) {b s : Nat} (hg : b = s) (h : p ≤ s) : Aside0 (p ≤ b) := ⟨hg ▸ h⟩
theorem zN2 {a b s : Nat} (hg : b = s) (h : a < s) : Aside0 (a ≠ b) ∧ Aside0 (b ≠ a) := ⟨⟨by subst hg; exact Nat.ne_of_lt h⟩, ⟨by subst hg; exact Nat.ne_of_gt h⟩⟩
theorem zN3 {a b s : Nat} {c : Prop} (hg : b = s) (h : a < s) (r : c) : Aside0 (a ≠ b) ∧ Aside0 (b ≠ a) ∧ c := ⟨(zN2 hg h).1, (zN2 hg h).2, r⟩
theorem zD2 {p0 p1 : Prop} (h0 : p0) (h1 : p1) : Aside0 p0 ∧ Aside0 p1 := ⟨⟨h0⟩, ⟨h1⟩⟩
theorem zD3 {p0 p1 p2 : Prop} (h0 : p0) (h1 : p1) (h2 : p2) : Aside0 p0 ∧ Aside0 p1 ∧ Aside0 p2 := ⟨⟨h0⟩, ⟨h1⟩, ⟨h2⟩⟩
theorem zD4 {p0 p1 p2 p3 : Prop} (h0 : p0) (h1 : p1) (h2 : p2) (h3 : p3) : Aside0 p0 ∧ Aside0 p1 ∧ Aside0 p2 ∧ Aside0 p3 := ⟨⟨h0⟩, ⟨h1⟩, ⟨h2⟩, ⟨h3⟩⟩
theorem zD5 {p0 p1 p2 p3 p4 : Prop} (h0 : p0) (h1 : p1) (h2 : p2) (h3 : p3) (h4 : p4) : Aside0 p0 ∧ Aside0 p1 ∧ Aside0 p2 ∧ Aside0 p3 ∧ Aside0 p4 := ⟨⟨h0⟩, ⟨h1⟩, ⟨h2⟩, ⟨h3⟩, ⟨h4⟩⟩
theorem zD6 {p0 p1 p2 p3 p4 p5 : Prop} (h0 : p0) (h1 : p1) (h2 : p2) (h3 : p3) (h4 : p4) (h5 : p5) : Aside0 p0 ∧ Aside0 p1 ∧ Aside0 p2 ∧ Aside0 p3 ∧ Aside0 p4 ∧ Aside0 p5 := ⟨⟨h0⟩, ⟨h1⟩, ⟨h2⟩, ⟨h3⟩, ⟨h4⟩, ⟨h5⟩⟩
theorem zD7 {p0 p1 p2 p3 p4 p5 p6 : Prop} (h0 : p0) (h1 : p1) (h2 : p2) (h3 : p3) (h4 : p4) (h5 : p5) (h6 : p6) : Aside0 p0 ∧ Aside0 p1 ∧ Aside0 p2 ∧ Aside0 p3 ∧ Aside0 p4 ∧ Aside0 p5 ∧ Aside0 p6 := ⟨⟨h0⟩, ⟨h1⟩, ⟨h2⟩, ⟨h3⟩, ⟨h4⟩, ⟨h5⟩, ⟨h6⟩⟩
theorem zD8 {p0 p1 p2 p3 p4 p5 p6 p7 : Prop} (h0 : p0) (h1 : p1) (h2 : p2) (h3 : p3) (h4 : p4) (h5 : p5) (h6 : p6) (h7 : p7) : Aside0 p0 ∧ Aside0 p1 ∧ Aside0 p2 ∧ Aside0 p3 ∧ Aside0 p4 ∧ Aside0 p5 ∧ Aside0 p6 ∧ Aside0 p7 := ⟨⟨h0⟩, ⟨h1⟩, ⟨h2⟩, ⟨h3⟩, ⟨h4⟩, ⟨h5⟩, ⟨h6⟩, ⟨h7⟩⟩
theorem zD9 {p0 p1 p2 p3 p4 p5 p6 p7 p8 : Prop} (h0 : p0) (h1 : p1) (h2 : p2) (h3 : p3) (h4 : p4) (h5 : p5) (h6 : p6) (h7 : p7) (h8 : p8) : Aside0 p0 ∧ Aside0 p1 ∧ Aside0 p2 ∧ Aside0 p3 ∧ Aside0 p4 ∧ Aside0 p5 ∧ Aside0 p6 ∧ Aside0 p7 ∧ Aside0 p8 := ⟨⟨h0⟩, ⟨h1⟩, ⟨h2⟩, ⟨h3⟩, ⟨h4⟩, ⟨h5⟩, ⟨h6⟩, ⟨h7⟩, ⟨h8⟩⟩
theorem zD10 {p0 p1 p2 p3 p4 p5 p6 p7 p8 p9 : Prop} (h0 : p0) (h1 : p1) (h2 : p2) (h3 : p3) (h4 : p4) (h5 : p5) (h6 : p6) (h7 : p7) (h8 : p8) (h9 : p9) : Aside0 p0 ∧ Aside0 p1 ∧ Aside0 p2 ∧ Aside0 p3 ∧ Aside0 p4 ∧ Aside0 p5 ∧ Aside0 p6 ∧ Aside0 p7 ∧ Aside0 p8 ∧ Aside0 p9 := ⟨⟨h0⟩, ⟨h1⟩, ⟨h2⟩, ⟨h3⟩, ⟨h4⟩, ⟨h5⟩, ⟨h6⟩, ⟨h7⟩, ⟨h8⟩, ⟨h9⟩⟩
theorem zD11 {p0 p1 p2 p3 p4 p5 p6 p7 p8 p9 p10 : Prop} (h0 : p0) (h1 : p1) (h2 : p2) (h3 : p3) (h4 : p4) (h5 : p5) (h6 : p6) (h7 : p7) (h8 : p8) (h9 : p9) (h10 : p10) : Aside0 p0 ∧ Aside0 p1 ∧ Aside0 p2 ∧ Aside0 p3 ∧ Aside0 p4 ∧ Aside0 p5 ∧ Aside0 p6 ∧ Aside0 p7 ∧ Aside0 p8 ∧ Aside0 p9 ∧ Aside0 p10 := ⟨⟨h0⟩, ⟨h1⟩, ⟨h2⟩, ⟨h3⟩, ⟨h4⟩, ⟨h5⟩, ⟨h6⟩, ⟨h7⟩, ⟨h8⟩, ⟨h9⟩, ⟨h10⟩⟩
theorem zD16 {p0 p1 p2 p3 p4 p5 p6 p7 p8 p9 p10 p11 p12 p13 p14 p15 : Prop} (h0 : p0) (h1 : p1) (h2 : p2) (h3 : p3) (h4 : p4) (h5 : p5) (h6 : p6) (h7 : p7) (h8 : p8) (h9 : p9) (h10 : p10) (h11 : p11) (h12 : p12) (h13 : p13) (h14 : p14) (h15 : p15) : Aside0 p0 ∧ Aside0 p1 ∧ Aside0 p2 ∧ Aside0 p3 ∧ Aside0 p4 ∧ Aside0 p5 ∧ Aside0 p6 ∧ Aside0 p7 ∧ Aside0 p8 ∧ Aside0 p9 ∧ Aside0 p10 ∧ Aside0 p11 ∧ Aside0 p12 ∧ Aside0 p13 ∧ Aside0 p14 ∧ Aside0 p15 := ⟨⟨h0⟩, ⟨h1⟩, ⟨h2⟩, ⟨h3⟩, ⟨h4⟩, ⟨h5⟩, ⟨h6⟩, ⟨h7⟩, ⟨h8⟩, ⟨h9⟩, ⟨h10⟩, ⟨h11⟩, ⟨h12⟩, ⟨h13⟩, ⟨h14⟩, ⟨h15⟩⟩
theorem zH0 {p : Prop} (h : p := by (with_reducible repeat (first | refine zf ?_ _ | refine zi ?_ | refine zg ?_ _)); refine zs (cs := #[.string ((rd_T72 l1 x7_3).f0), .int .i64 ((rd_T72 l1 x7_3).f1), .int .i64 ((rd_T72 l1 x7_3).f2), .int .i64 ((rd_T72 l1 x7_3).f3), .slice none 0 0]) ?_ 4 _ rfl; (with_reducible repeat (first | refine zf ?_ _ | refine zi ?_ | refine zg ?_ _)); refine zs (cs := #[.string ((rd_T72 l1 x7_3).f0), .int .i64 ((rd_T72 l1 x7_3).f1), .int .i64 ((rd_T72 l1 x7_3).f2), .int .i64 0, .slice none 0 0]) ?_ 3 _ rfl; (with_reducible repeat (first | refine zf ?_ _ | refine zi ?_ | refine zg ?_ _)); refine zs (cs := #[.string ((rd_T72 l1 x7_3).f0), .int .i64 ((rd_T72 l1 x7_3).f1), .int .i64 0, .int .i64 0, .slice none 0 0]) ?_ 2 _ rfl; (with_reducible repeat (first | refine zf ?_ _ | refine zi ?_ | refine zg ?_ _)); refine zs (cs := #[.string ((rd_T72 l1 x7_3).f0), .int .i64 0, .int .i64 0, .int .i64 0, .slice none 0 0]) ?_ 1 _ rfl; (with_reducible repeat (first | refine zf ?_ _ | refine zi ?_ | refine zg ?_ _)); refine zs (cs := #[.string (⟨#[]⟩ : ByteArray), .int .i64 0, .int .i64 0, .int .i64 0, .slice none 0 0]) ?_ 0 _ rfl; (with_reducible repeat (first | refine zf ?_ _ | refine zi ?_ | refine zg ?_ _)); exact BK201.out) : p := h
theorem zH1 {p : Prop} (h : p := by (with_reducible repeat (first | refine zf ?_ _ | refine zi ?_ | refine zg ?_ _)); refine zs (cs := #[.int .i64 ((rd_T139 l0 x20_2).f0), .int .i64 ((rd_T139 l0 x20_2).f1), .string (⟨#[]⟩ : ByteArray)]) ?_ 2 _ rfl; (with_reducible repeat (first | refine zf ?_ _ | refine zi ?_ | refine zg ?_ _)); refine zs (cs := #[.int .i64 ((rd_T139 l0 x20_2).f0), .int .i64 0, .string (⟨#[]⟩ : ByteArray)]) ?_ 1 _ rfl; (with_reducible repeat (first | refine zf ?_ _ | refine zi ?_ | refine zg ?_ _)); refine zs (cs := #[.int .i64 0, .int .i64 0, .string (⟨#[]⟩ : ByteArray)]) ?_ 0 _ rfl; (with_reducible repeat (first | refine zf ?_ _ | refine zi ?_ | refine zg ?_ _)); exact BK129.out) : p := h
theorem zH2 {p : Prop} (h : p := by (with_reducible repeat (first | refine zf ?_ _ | refine zi ?_ | refine zg ?_ _)); refine zs (cs := #[.int .i64 ((rd_T139 l0 x5_2).f0), .int .i64 ((rd_T139 l0 x5_2).f1), .string (⟨#[]⟩ : ByteArray)]) ?_ 2 _ rfl; (with_reducible repeat (first | refine zf ?_ _ | refine zi ?_ | refine zg ?_ _)); refine zs (cs := #[.int .i64 ((rd_T139 l0 x5_2).f0), .int .i64 0, .string (⟨#[]⟩ : ByteArray)]) ?_ 1 _ rfl; (with_reducible repeat (first | refine zf ?_ _ | refine zi ?_ | refine zg ?_ _)); refine zs (cs := #[.int .i64 0, .int .i64 0, .string (⟨#[]⟩ : ByteArray)]) ?_ 0 _ rfl; (with_reducible repeat (first | refine zf ?_ _ | refine zi ?_ | refine zg ?_ _)); exact BK197.out) : p := h
theorem zH3 {p : Prop} (h : p := by exact ⟨_, by first | rfl | (simp [errW_none, errW_some] <;> rfl) | (simp [*, errW_none, errW_some] <;> rfl), by (with_reducible repeat (first | apply zl | apply zm | apply zn)); exact HO_5000.out, zG85, zG86, by repeat (first | (with_reducible first | exact HB.out | apply ze | apply zc | apply zd | refine zh ?_ GE1.out | refine zh ?_ GE2.out | refine zh ?_ GE3.out | refine zh ?_ GE4.out | refine zh ?_ GE5.out) | exact HB.out), by repeat (first | (with_reducible first | exact HK.out | apply Kept.alloc | apply Kept.drewN | apply Kept.drew | refine Kept.setCell ?_ (.inl (Or.inl (Or.inr rfl))) _ | refine Kept.setCell ?_ (.inl (Or.inr rfl)) _) | exact HK.out)⟩) : p := h
theorem zH4 {p : Prop} (h : p := by refine (Kd.R_reads' (e := 3) (base := w.heap.size) (ok := fun k_ => ((True ∧ some k_ ≠ (.slice Ao25 t336.length co25 : Value).ownBlock) ∧ some k_ ≠ (.slice Ao33 t348.length co33 : Value).ownBlock)) (n := t376.length) (c := co100) ?_).2.2; exact (by (with_reducible repeat (first | apply zl | apply zm | apply zn)); exact (zx (zy (p := ⟨gb381, 1, none⟩) (zy (p := ⟨gb381, 0, none⟩) (zab HO378.out BK381.out (by decide)) (fun _ hk => hk.2) (.slice Ao100 t376.length co100)) (fun _ hk => hk.2) (.int .i64 t379)) (fun _ h_ => h_.1)))) : p := h
theorem zH5 {p : Prop} (h : p := by refine (Kd.R_reads' (e := 3) (base := w.heap.size) (ok := fun k_ => (some k_ ≠ (.slice Ao33 t348.length co33 : Value).ownBlock ∧ some k_ ≠ (.slice Ao100 t376.length co100 : Value).ownBlock)) (n := t336.length) (c := co25) ?_).2.2; exact (by (with_reducible repeat (first | apply zl | apply zm | apply zn)); exact (zx (zy (p := ⟨gb381, 1, none⟩) (zy (p := ⟨gb381, 0, none⟩) (zab HO_342000.out BK381.out (by decide)) (fun _ hk => hk.2) (.slice Ao100 t376.length co100)) (fun _ hk => hk.2) (.int .i64 t379)) (fun _ h_ => h_.1)))) : p := h
theorem zH6 {p : Prop} (h : p := by exact zax k139_heap HR0.out (by repeat (first | (with_reducible first | exact HB.out | apply ze | apply zc | apply zd | refine zh ?_ GE180.out | refine zh ?_ GE181.out | refine zh ?_ GE182.out | refine zh ?_ GE186.out | refine zh ?_ GE187.out | refine zh ?_ GE188.out) | exact HB.out)) (fun k_ hs_ => Or.elim hs_ (fun hs_ => Or.elim hs_ (fun hs_ => (fun e_ => by simp [Value.ownBlock] at e_) hs_) (fun e_ => (by rw [e_]; exact GW187.out))) (fun e_ => (by rw [e_]; exact GW186.out)))) : p := h
theorem zH7 {p : Prop} (h : p := by exact zax k72_heap HR1.out (by repeat (first | (with_reducible first | exact HB.out | apply ze | apply zc | apply zd | refine zh ?_ GE180.out | refine zh ?_ GE181.out | refine zh ?_ GE182.out | refine zh ?_ GE186.out | refine zh ?_ GE187.out | refine zh ?_ GE188.out) | exact HB.out)) (fun k_ hs_ => Or.elim hs_ (fun hs_ => Or.elim hs_ (fun hs_ => (fun e_ => by simp [Value.ownBlock] at e_) hs_) (fun e_ => (by rw [e_]; exact GW187.out))) (fun e_ => (by rw [e_]; exact GW186.out)))) : p := h
theorem zH8 {p : Prop} (h : p := by exact (fun k_ hk => ⟨(.inr (Nat.le_trans (by first | exact HK.out.1 | exact (show Kept w _ (fun k_ => (P0_2_ k_ ∨ P1_ k_) ∨ k_ = gi0) from by repeat (first | (with_reducible first | exact HK.out | apply Kept.alloc | apply Kept.drewN | apply Kept.drew | refine Kept.setCell ?_ (.inl (Or.inr rfl)) _) | exact HK.out)).1) hk)), Kd.fresh' (zaj zG90) k_ hk, Kd.fresh' (zaj (by (with_reducible repeat (first | apply zl | apply zm | apply zn)); exact HO_1002.out)) k_ hk⟩)) : p := h
theorem zH9 {p : Prop} (h : p := by refine (Kd.R_reads' (e := 3) (base := w.heap.size) (ok := fun k_ => (True ∧ some k_ ≠ (.slice Ao25 t336.length co25 : Value).ownBlock)) (n := t348.length) (c := co33) ?_).2.2; exact (by (with_reducible repeat (first | apply zl | apply zm | apply zn)); exact (zx (zy (p := ⟨gb353, 1, none⟩) (zy (p := ⟨gb353, 0, none⟩) (zab HO350.out BK353.out (by decide)) (fun _ hk => hk.2) (.slice Ao33 t348.length co33)) (fun _ hk => hk.2) (.int .i64 t351)) (fun _ h_ => h_.1)))) : p := h
theorem zH10 {p : Prop} (h : p := by refine (Kd.R_reads' (e := 3) (base := w.heap.size) (ok := fun k_ => (True ∧ some k_ ≠ (.slice Ao33 t348.length co33 : Value).ownBlock)) (n := t336.length) (c := co25) ?_).2.2; exact (by (with_reducible repeat (first | apply zl | apply zm | apply zn)); exact (zx (zy (p := ⟨gb353, 1, none⟩) (zy (p := ⟨gb353, 0, none⟩) (zab HO338.out BK353.out (by decide)) (fun _ hk => hk.2) (.slice Ao33 t348.length co33)) (fun _ hk => hk.2) (.int .i64 t351)) (fun _ h_ => h_.1)))) : p := h
theorem zH11 {p : Prop} (h : p := by exact ⟨_, by first | rfl | (simp [errW_none, errW_some] <;> rfl) | (simp [*, errW_none, errW_some] <;> rfl), by first | exact zaz _ _ _ _ _ | exact Kd.N_nil _ _ _ _ _ | exact Kd.V_nil _ _ _ _ _ | exact Kd.Q_nil _ _ _ _ _ | exact Kd.S_nil _ _ _ _ _, by repeat (first | (with_reducible first | exact HB.out | apply ze | apply zc | apply zd | refine zh ?_ GE180.out | refine zh ?_ GE181.out | refine zh ?_ GE182.out) | exact HB.out)⟩) : p := h
theorem zH12 {p : Prop} (h : p := by exact ⟨by first | rfl | (simp [errW_none, errW_some] <;> rfl) | (simp [*, errW_none, errW_some] <;> rfl), by (with_reducible repeat (first | apply zl | apply zm | apply zn)); exact HO_0.out, by repeat (first | (with_reducible first | exact HB.out | apply ze | apply zc | apply zd) | exact HB.out), by repeat (first | (with_reducible first | exact HK.out | apply Kept.alloc | apply Kept.drewN | apply Kept.drew) | exact HK.out)⟩) : p := h
theorem zH13 {p : Prop} (h : p := by exact zax k139_heap HR0.out (by repeat (first | (with_reducible first | exact HB.out | apply ze | apply zc | apply zd | refine zh ?_ GE243.out | refine zh ?_ GE245.out) | exact HB.out)) (fun k_ hs_ => Or.elim hs_ (fun hs_ => Or.elim hs_ (fun e_ => (fun e_ => by simp [Value.ownBlock] at e_) e_) (fun e_ => (fun e_ => zak HO248.out k_ e_.symm) e_)) (fun e_ => (by rw [e_]; exact GW245.out)))) : p := h
theorem zH14 {p : Prop} (h : p := by exact zax k72_heap HR1.out (by repeat (first | (with_reducible first | exact HB.out | apply ze | apply zc | apply zd | refine zh ?_ GE243.out | refine zh ?_ GE245.out) | exact HB.out)) (fun k_ hs_ => Or.elim hs_ (fun hs_ => Or.elim hs_ (fun e_ => (fun e_ => by simp [Value.ownBlock] at e_) e_) (fun e_ => (fun e_ => zak HO248.out k_ e_.symm) e_)) (fun e_ => (by rw [e_]; exact GW245.out)))) : p := h
theorem zH15 {p : Prop} (h : p := by exact ⟨_, by first | rfl | (simp [errW_none, errW_some] <;> rfl) | (simp [*, errW_none, errW_some] <;> rfl), by first | exact zaz _ _ _ _ _ | exact Kd.N_nil _ _ _ _ _ | exact Kd.V_nil _ _ _ _ _ | exact Kd.Q_nil _ _ _ _ _ | exact Kd.S_nil _ _ _ _ _, by repeat (first | (with_reducible first | exact HB.out | apply ze | apply zc | apply zd | refine zh ?_ GE243.out) | exact HB.out)⟩) : p := h
theorem zH16 {p : Prop} (h : p := by exact ⟨_, by first | rfl | (simp [errW_none, errW_some] <;> rfl) | (simp [*, errW_none, errW_some] <;> rfl), by (with_reducible repeat (first | apply zl | apply zm | apply zn)); exact HO_3.out, by repeat (first | (with_reducible first | exact HB.out | apply ze | apply zc | apply zd) | exact HB.out)⟩) : p := h
theorem zH17 {p : Prop} (h : p := by exact ⟨by first | rfl | (simp [errW_none, errW_some] <;> rfl) | (simp [*, errW_none, errW_some] <;> rfl), by repeat (first | (with_reducible first | exact HB.out | apply ze | apply zc | apply zd | refine zh ?_ GE341.out | refine zh ?_ GE353.out | refine zh ?_ GE381.out) | exact HB.out)⟩) : p := h
theorem zH18 {p : Prop} (h : p := by exact ⟨by first | rfl | (simp [errW_none, errW_some] <;> rfl) | (simp [*, errW_none, errW_some] <;> rfl), by repeat (first | (with_reducible first | exact HB.out | apply ze | apply zc | apply zd | refine zh ?_ GE298.out | refine zh ?_ GE299.out) | exact HB.out)⟩) : p := h
theorem zH19 {p : Prop} (h : p := by exact ⟨by first | rfl | (simp [errW_none, errW_some] <;> rfl) | (simp [*, errW_none, errW_some] <;> rfl), by repeat (first | (with_reducible first | exact HB.out | apply ze | apply zc | apply zd | refine zh ?_ GE154.out | refine zh ?_ GE155.out) | exact HB.out)⟩) : p := h
theorem zH20 {p : Prop} (h : p := by exact ⟨by first | rfl | (simp [errW_none, errW_some] <;> rfl) | (simp [*, errW_none, errW_some] <;> rfl), by repeat (first | (with_reducible first | exact HB.out | apply ze | apply zc | apply zd | refine zh ?_ GE301.out | refine zh ?_ GE302.out) | exact HB.out)⟩) : p := h
theorem zH21 {p : Prop} (h : p := by exact ⟨by first | rfl | (simp [errW_none, errW_some] <;> rfl) | (simp [*, errW_none, errW_some] <;> rfl), by repeat (first | (with_reducible first | exact HB.out | apply ze | apply zc | apply zd | refine zh ?_ GE308.out | refine zh ?_ GE309.out) | exact HB.out)⟩) : p := h
theorem zH22 {p : Prop} (h : p := by exact ⟨by first | rfl | (simp [errW_none, errW_some] <;> rfl) | (simp [*, errW_none, errW_some] <;> rfl), by repeat (first | (with_reducible first | exact HB.out | apply ze | apply zc | apply zd | refine zh ?_ GE341.out | refine zh ?_ GE353.out) | exact HB.out)⟩) : p := h
theorem zH23 {p : Prop} (h : p := by repeat (first | (with_reducible first | exact HB.out | apply ze | apply zc | apply zd | refine zh ?_ GE180.out | refine zh ?_ GE181.out | refine zh ?_ GE182.out | refine zh ?_ GE186.out | refine zh ?_ GE187.out | refine zh ?_ GE188.out) | exact HB.out)) : p := h
theorem zH24 {p : Prop} (h : p := by repeat (first | (with_reducible first | exact HB.out | apply ze | apply zc | apply zd | refine zh ?_ GE180.out | refine zh ?_ GE181.out | refine zh ?_ GE182.out | refine zh ?_ GE186.out | refine zh ?_ GE187.out | refine zh ?_ GE188.out) | exact HB.out)) : p := h
theorem zH25 {p : Prop} (h : p := by exact ⟨by first | rfl | (simp [errW_none, errW_some] <;> rfl) | (simp [*, errW_none, errW_some] <;> rfl), by repeat (first | (with_reducible first | exact HB.out | apply ze | apply zc | apply zd | refine zh ?_ GE254.out) | exact HB.out)⟩) : p := h
theorem zH26 {p : Prop} (h : p := by exact ⟨by first | rfl | (simp [errW_none, errW_some] <;> rfl) | (simp [*, errW_none, errW_some] <;> rfl), by repeat (first | (with_reducible first | exact HB.out | apply ze | apply zc | apply zd | refine zh ?_ GE326.out) | exact HB.out)⟩) : p := h
theorem zH27 {p : Prop} (h : p := by exact ⟨by first | rfl | (simp [errW_none, errW_some] <;> rfl) | (simp [*, errW_none, errW_some] <;> rfl), by repeat (first | (with_reducible first | exact HB.out | apply ze | apply zc | apply zd | refine zh ?_ GE201.out) | exact HB.out)⟩) : p := h
theorem zH28 {p : Prop} (h : p := by exact ⟨by first | rfl | (simp [errW_none, errW_some] <;> rfl) | (simp [*, errW_none, errW_some] <;> rfl), by repeat (first | (with_reducible first | exact HB.out | apply ze | apply zc | apply zd | refine zh ?_ GE258.out) | exact HB.out)⟩) : p := h
theorem zH29 {p : Prop} (h : p := by exact ⟨by first | rfl | (simp [errW_none, errW_some] <;> rfl) | (simp [*, errW_none, errW_some] <;> rfl), by repeat (first | (with_reducible first | exact HB.out | apply ze | apply zc | apply zd | refine zh ?_ GE129.out) | exact HB.out)⟩) : p := h
theorem zH30 {p : Prop} (h : p := by exact ⟨by first | rfl | (simp [errW_none, errW_some] <;> rfl) | (simp [*, errW_none, errW_some] <;> rfl), by repeat (first | (with_reducible first | exact HB.out | apply ze | apply zc | apply zd | refine zh ?_ GE216.out) | exact HB.out)⟩) : p := h
theorem zH31 {p : Prop} (h : p := by exact ⟨by first | rfl | (simp [errW_none, errW_some] <;> rfl) | (simp [*, errW_none, errW_some] <;> rfl), by repeat (first | (with_reducible first | exact HB.out | apply ze | apply zc | apply zd | refine zh ?_ GE122.out) | exact HB.out)⟩) : p := h
theorem zH32 {p : Prop} (h : p := by repeat (first | (with_reducible first | exact HK.out | apply Kept.alloc | apply Kept.drewN | apply Kept.drew | refine Kept.setCell ?_ (.inl (Or.inl (Or.inr rfl))) _ | refine Kept.setCell ?_ (.inl (Or.inr rfl)) _) | exact HK.out)) : p := h
theorem zH33 {p : Prop} (h : p := by repeat (first | (with_reducible first | exact HB.out | apply ze | apply zc | apply zd | refine zh ?_ GE1.out | refine zh ?_ GE2.out | refine zh ?_ GE3.out | refine zh ?_ GE4.out | refine zh ?_ GE5.out) | exact HB.out)) : p := h
theorem zH34 {p : Prop} (h : p := by exact ⟨by first | rfl | (simp [errW_none, errW_some] <;> rfl) | (simp [*, errW_none, errW_some] <;> rfl), by repeat (first | (with_reducible first | exact HB.out | apply ze | apply zc | apply zd) | exact HB.out)⟩) : p := h
theorem zH35 {p : Prop} (h : p := by repeat (first | (with_reducible first | exact HB.out | apply ze | apply zc | apply zd | refine zh ?_ GE180.out | refine zh ?_ GE181.out | refine zh ?_ GE182.out) | exact HB.out)) : p := h
theorem zH36 {p : Prop} (h : p := by repeat (first | (with_reducible first | exact HB.out | apply ze | apply zc | apply zd | refine zh ?_ GE341.out | refine zh ?_ GE353.out | refine zh ?_ GE381.out) | exact HB.out)) : p := h
theorem zH37 {p : Prop} (h : p := by repeat (first | (with_reducible first | exact HK.out | apply Kept.alloc | apply Kept.drewN | apply Kept.drew | refine Kept.setCell ?_ (.inl (Or.inr rfl)) _) | exact HK.out)) : p := h
theorem zH38 {p : Prop} (h : p := by exact ⟨by first | rfl | (simp; done) | (simp only [← hji25] <;> (first | rfl | simp)) | (simp [*]; done), by repeat (first | exact Drawn0.refl _ | apply Drawn0.step)⟩) : p := h
theorem zH39 {p : Prop} (h : p := by repeat (first | (with_reducible first | exact HB.out | apply ze | apply zc | apply zd | refine zh ?_ GE243.out | refine zh ?_ GE245.out) | exact HB.out)) : p := h
theorem zH40 {p : Prop} (h : p := by repeat (first | (with_reducible first | exact HB.out | apply ze | apply zc | apply zd | refine zh ?_ GE154.out | refine zh ?_ GE155.out) | exact HB.out)) : p := h
theorem zH41 {p : Prop} (h : p := by repeat (first | (with_reducible first | exact HB.out | apply ze | apply zc | apply zd | refine zh ?_ GE341.out | refine zh ?_ GE353.out) | exact HB.out)) : p := h
theorem zH42 {p : Prop} (h : p := by repeat (first | exact (Kd.R_reads' HO_342000.out).2.2 | (with_reducible refine zt ?_ _) | (with_reducible refine zu ?_ _) | (with_reducible refine zv ?_))) : p := h
theorem zH43 {p : Prop} (h : p := by repeat (first | exact (Kd.R_reads' HO_354000.out).2.2 | (with_reducible refine zt ?_ _) | (with_reducible refine zu ?_ _) | (with_reducible refine zv ?_))) : p := h
theorem zH44 {p : Prop} (h : p := by exact zz HR135_4.out (by repeat (first | (with_reducible first | exact HB.out | apply ze | apply zc | apply zd | refine zh ?_ GE136.out) | exact HB.out))) : p := h
theorem zH45 {p : Prop} (h : p := by exact zz HR215_4.out (by repeat (first | (with_reducible first | exact HB.out | apply ze | apply zc | apply zd | refine zh ?_ GE216.out) | exact HB.out))) : p := h
theorem zH46 {p : Prop} (h : p := by repeat (first | (with_reducible first | exact HB.out | apply ze | apply zc | apply zd | refine zh ?_ GE243.out | refine zh ?_ GE245.out) | exact HB.out)) : p := h
theorem zH47 {p : Prop} (h : p := by repeat (first | (with_reducible first | exact HB.out | apply ze | apply zc | apply zd | refine zh ?_ GE341.out | refine zh ?_ GE353.out) | exact HB.out)) : p := h
theorem zH48 {p : Prop} (h : p := by repeat (first | exact (Kd.R_reads' HO357.out).2.2 | (with_reducible refine zt ?_ _) | (with_reducible refine zu ?_ _) | (with_reducible refine zv ?_))) : p := h
theorem zH49 {p : Prop} (h : p := by repeat (first | exact (Kd.R_reads' HO_8.out).2.2 | (with_reducible refine zt ?_ _) | (with_reducible refine zu ?_ _) | (with_reducible refine zv ?_))) : p := h
theorem zH50 {p : Prop} (h : p := by repeat (first | exact (zz HR260_4.out HB.out) | (with_reducible refine zt ?_ _) | (with_reducible refine zu ?_ _) | (with_reducible refine zv ?_))) : p := h
theorem zH51 {p : Prop} (h : p := by repeat (first | exact (zz HR311_4.out HB.out) | (with_reducible refine zt ?_ _) | (with_reducible refine zu ?_ _) | (with_reducible refine zv ?_))) : p := h
theorem zH52 {p : Prop} (h : p := by repeat (first | exact (zz HR312_4.out HB.out) | (with_reducible refine zt ?_ _) | (with_reducible refine zu ?_ _) | (with_reducible refine zv ?_))) : p := h
theorem zH53 {p : Prop} (h : p := by repeat (first | exact (zz HR153_4.out HB.out) | (with_reducible refine zt ?_ _) | (with_reducible refine zu ?_ _) | (with_reducible refine zv ?_))) : p := h
theorem zH54 {p : Prop} (h : p := by repeat (first | exact (zz HR1_4.out HB.out) | (with_reducible refine zt ?_ _) | (with_reducible refine zu ?_ _) | (with_reducible refine zv ?_))) : p := h
theorem zH55 {p : Prop} (h : p := by repeat (first | exact (zz HR1_0.out HB.out) | (with_reducible refine zt ?_ _) | (with_reducible refine zu ?_ _) | (with_reducible refine zv ?_))) : p := h
theorem zH56 {p : Prop} (h : p := by repeat (first | exact (zz HR0_4.out HB.out) | (with_reducible refine zt ?_ _) | (with_reducible refine zu ?_ _) | (with_reducible refine zv ?_))) : p := h
theorem zH57 {p : Prop} (h : p := by repeat (first | exact (zz HR0_0.out HB.out) | (with_reducible refine zt ?_ _) | (with_reducible refine zu ?_ _) | (with_reducible refine zv ?_))) : p := h
theorem zH58 {p : Prop} (h : p := by repeat (first | exact (q13a HO236.out).2.2 | (with_reducible refine zt ?_ _) | (with_reducible refine zu ?_ _) | (with_reducible refine zv ?_))) : p := h
theorem zH59 {p : Prop} (h : p := by repeat (first | exact (q13a HO_1.out).2.2 | (with_reducible refine zt ?_ _) | (with_reducible refine zu ?_ _) | (with_reducible refine zv ?_))) : p := h
theorem zH60 {p : Prop} (h : p := by repeat (first | exact (zao HO361.out).2.2 | (with_reducible refine zt ?_ _) | (with_reducible refine zu ?_ _) | (with_reducible refine zv ?_))) : p := h
theorem zH61 {p : Prop} (h : p := by repeat (first | exact (zz HR1.out HB.out) | (with_reducible refine zt ?_ _) | (with_reducible refine zu ?_ _) | (with_reducible refine zv ?_))) : p := h
theorem zH62 {p : Prop} (h : p := by repeat (first | exact (zz HR0.out HB.out) | (with_reducible refine zt ?_ _) | (with_reducible refine zu ?_ _) | (with_reducible refine zv ?_))) : p := h
theorem zH63 {p : Prop} (h : p := by repeat (first | exact (zao HO_9.out).2.2 | (with_reducible refine zt ?_ _) | (with_reducible refine zu ?_ _) | (with_reducible refine zv ?_))) : p := h
theorem zH64 {p : Prop} (h : p := by repeat (first | exact (q13a HO1.out).2.2 | (with_reducible refine zt ?_ _) | (with_reducible refine zu ?_ _) | (with_reducible refine zv ?_))) : p := h
theorem zH65 {p : Prop} (h : p := by first | exact zaz _ _ _ _ _ | exact Kd.N_nil _ _ _ _ _ | exact Kd.V_nil _ _ _ _ _ | exact Kd.Q_nil _ _ _ _ _ | exact Kd.S_nil _ _ _ _ _) : p := h
theorem zH66 {p : Prop} (h : p := by exact (by (with_reducible repeat (first | apply zl | apply zm | apply zn)); exact zx HO230.out (fun _ hk => ⟨hk.1.1.1, ⟨hk.1.2, hk.2⟩⟩))) : p := h
theorem zH67 {p : Prop} (h : p := by repeat (first | exact HR115.out | (with_reducible refine zt ?_ _) | (with_reducible refine zu ?_ _) | (with_reducible refine zv ?_))) : p := h
theorem zH68 {p : Prop} (h : p := by repeat (first | (with_reducible first | exact HB.out | apply ze | apply zc | apply zd | refine zh ?_ GE136.out) | exact HB.out)) : p := h
theorem zH69 {p : Prop} (h : p := by repeat (first | (with_reducible first | exact HB.out | apply ze | apply zc | apply zd | refine zh ?_ GE243.out) | exact HB.out)) : p := h
theorem zH70 {p : Prop} (h : p := by repeat (first | exact HR0.out | (with_reducible refine zt ?_ _) | (with_reducible refine zu ?_ _) | (with_reducible refine zv ?_))) : p := h
theorem zH71 {p : Prop} (h : p := by repeat (first | (with_reducible first | exact HB.out | apply ze | apply zc | apply zd | refine zh ?_ GE122.out) | exact HB.out)) : p := h
theorem zH72 {p : Prop} (h : p := by repeat (first | (with_reducible first | exact HB.out | apply ze | apply zc | apply zd | refine zh ?_ GE197.out) | exact HB.out)) : p := h
theorem zH73 {p : Prop} (h : p := by repeat (first | (with_reducible first | exact HB.out | apply ze | apply zc | apply zd | refine zh ?_ GE216.out) | exact HB.out)) : p := h
theorem zH74 {p : Prop} (h : p := by repeat (first | (with_reducible first | exact HB.out | apply ze | apply zc | apply zd | refine zh ?_ GE201.out) | exact HB.out)) : p := h
theorem zH75 {p : Prop} (h : p := by repeat (first | (with_reducible first | exact HB.out | apply ze | apply zc | apply zd | refine zh ?_ GE129.out) | exact HB.out)) : p := h
theorem zH76 {p : Prop} (h : p := by repeat (first | (with_reducible first | exact HK.out | apply Kept.alloc | apply Kept.drewN | apply Kept.drew) | exact HK.out)) : p := h
theorem zH77 {p : Prop} (h : p := by repeat (first | (with_reducible first | exact HB.out | apply ze | apply zc | apply zd | refine zh ?_ GE0.out) | exact HB.out)) : p := h
theorem zH78 {p : Prop} (h : p := by exact ⟨by first | rfl | (simp; done) | (simp [*]; done), by repeat (first | exact Drawn0.refl _ | apply Drawn0.step)⟩) : p := h
theorem zH79 {p : Prop} (h : p := by (with_reducible repeat (first | apply zl | apply zm | apply zn)); exact zx HO378.out (fun _ hk => ⟨hk.1.2, hk.2⟩)) : p := h
theorem zH80 {p : Prop} (h : p := by rw [show t368.length = t348.length from (Kd.R_reads' HO_354000.out).1.symm]; exact (Kd.R_reads' HO_354000.out).2.1) : p := h
theorem zH81 {p : Prop} (h : p := by (with_reducible repeat (first | apply zac | apply zad | apply zae)); exact zau HO347.out (fun _ hk => trivial)) : p := h
theorem zH82 {p : Prop} (h : p := by have := HJ2.out; have := HK2.out; have := HK3.out; have := HJ28.out; have := HK5.out; have := HK6.out; omega) : p := h
theorem zH83 {p : Prop} (h : p := by (with_reducible repeat (first | apply zl | apply zm | apply zn)); exact zx HO344.out (fun _ hk => trivial)) : p := h
theorem zH84 {p : Prop} (h : p := by exact (by (with_reducible repeat (first | refine zf ?_ _ | refine zi ?_ | refine zg ?_ _)); exact BK186.out)) : p := h
theorem zH85 {p : Prop} (h : p := by exact (by (with_reducible repeat (first | refine zf ?_ _ | refine zi ?_ | refine zg ?_ _)); exact BK187.out)) : p := h
theorem zH86 {p : Prop} (h : p := by exact (by (with_reducible repeat (first | refine zf ?_ _ | refine zi ?_ | refine zg ?_ _)); exact BK188.out)) : p := h
theorem zH87 {p : Prop} (h : p := by exact (by (with_reducible repeat (first | refine zf ?_ _ | refine zi ?_ | refine zg ?_ _)); exact BK245.out)) : p := h
theorem zH88 {p : Prop} (h : p := by repeat (first | (with_reducible first | exact HB0.out | apply ze | apply zc | apply zd) | exact HB0.out)) : p := h
theorem zH89 {p : Prop} (h : p := by (with_reducible repeat (first | apply zl | apply zm | apply zn)); exact zx HO338.out (fun _ hk => hk.2)) : p := h
theorem zH90 {p : Prop} (h : p := by (with_reducible repeat (first | apply zl | apply zm | apply zn)); exact zx HO350.out (fun _ hk => hk.2)) : p := h
theorem zH91 {p : Prop} (h : p := by repeat (first | (with_reducible first | exact HB.out | apply ze | apply zc | apply zd) | exact HB.out)) : p := h
theorem zH92 {p : Prop} (h : p := by (with_reducible repeat (first | refine zf ?_ _ | refine zi ?_ | refine zg ?_ _)); exact BK154.out) : p := h
theorem zH93 {p : Prop} (h : p := by (with_reducible repeat (first | refine zf ?_ _ | refine zi ?_ | refine zg ?_ _)); exact BK155.out) : p := h
theorem zH94 {p : Prop} (h : p := by (with_reducible repeat (first | refine zf ?_ _ | refine zi ?_ | refine zg ?_ _)); exact BK216.out) : p := h
theorem zH95 {p : Prop} (h : p := by (with_reducible repeat (first | refine zf ?_ _ | refine zi ?_ | refine zg ?_ _)); exact BK201.out) : p := h
theorem zH96 {p : Prop} (h : p := by (with_reducible repeat (first | refine zf ?_ _ | refine zi ?_ | refine zg ?_ _)); exact BK341.out) : p := h
theorem zH97 {p : Prop} (h : p := by (with_reducible repeat (first | refine zf ?_ _ | refine zi ?_ | refine zg ?_ _)); exact BK353.out) : p := h
theorem zH98 {p : Prop} (h : p := by (with_reducible repeat (first | refine zf ?_ _ | refine zi ?_ | refine zg ?_ _)); exact BK0.out) : p := h
theorem zH99 {p : Prop} (h : p := by (with_reducible repeat (first | refine zf ?_ _ | refine zi ?_ | refine zg ?_ _)); exact BK1.out) : p := h
theorem zH100 {p : Prop} (h : p := by (with_reducible repeat (first | refine zf ?_ _ | refine zi ?_ | refine zg ?_ _)); exact BK2.out) : p := h
theorem zH101 {p : Prop} (h : p := by (with_reducible repeat (first | refine zf ?_ _ | refine zi ?_ | refine zg ?_ _)); exact BK3.out) : p := h
theorem zH102 {p : Prop} (h : p := by (with_reducible repeat (first | refine zf ?_ _ | refine zi ?_ | refine zg ?_ _)); exact BK4.out) : p := h
theorem zH103 {p : Prop} (h : p := by (with_reducible repeat (first | refine zf ?_ _ | refine zi ?_ | refine zg ?_ _)); exact BK5.out) : p := h
theorem zH104 {p : Prop} (h : p := by first | rfl | (simp [errW_none, errW_some] <;> rfl) | (simp [*, errW_none, errW_some] <;> rfl)) : p := h
theorem zH105 {p : Prop} (h : p := by have := HJ2.out; have := HK2.out; have := HK3.out; first | omega | exact Nat.le_refl _) : p := h
theorem zH106 {p : Prop} (h : p := by (with_reducible repeat (first | apply zl | apply zm | apply zn)); exact HO_342000.out) : p := h
theorem zH107 {p : Prop} (h : p := by (with_reducible repeat (first | apply zl | apply zm | apply zn)); exact HO_354000.out) : p := h
theorem zH108 {p : Prop} (h : p := by (with_reducible repeat (first | apply zl | apply zm | apply zn)); exact HO_5000.out) : p := h
theorem zH109 {p : Prop} (h : p := by (with_reducible repeat (first | apply zl | apply zm | apply zn)); exact HO_0.out) : p := h
theorem zH110 {p : Prop} (h : p := by (with_reducible repeat (first | apply zl | apply zm | apply zn)); exact HO_3.out) : p := h
theorem zH111 {p : Prop} (h : p := by have := HJ2.out; have := HK2.out; first | omega | exact Nat.le_refl _) : p := h
theorem zH112 {p : Prop} (h : p := by repeat (first | exact Drawn0.refl _ | apply Drawn0.step)) : p := h
theorem zH113 {p : Prop} (h : p := by have := HJ5.out; first | omega | exact Nat.le_refl _) : p := h
theorem zH114 {p : Prop} (h : p := by have := HK1.out; first | omega | exact Nat.le_refl _) : p := h
theorem zH115 {p : Prop} (h : p := by intro k_ e_ e2_; simp [Value.ownBlock] at e_ e2_) : p := h
theorem zH116 {p : Prop} (h : p := by have := HK1.out; have := HJ4.out; omega) : p := h
theorem zH117 {p : Prop} (h : p := by first | (go_simp; done) | (go_simp; rfl)) : p := h
theorem zH118 {p : Prop} (h : p := by first | omega | exact Nat.le_refl _) : p := h
theorem zH119 {p : Prop} (h : p := by exact (Kd.R_reads' HO_354000.out).2.1) : p := h
theorem zH120 {p : Prop} (h : p := by have := HK1.out; omega) : p := h
theorem zK121 {p : Prop} (h : p := by (with_reducible repeat (first | refine zf ?_ _ | refine zi ?_ | refine zg ?_ _)); refine zs (cs := #[.string ((rd_T72 l1 x65_3).f0), .int .i64 ((rd_T72 l1 x65_3).f1), .int .i64 ((rd_T72 l1 x65_3).f2), .int .i64 ((rd_T72 l1 x65_3).f3), .slice none 0 0]) ?_ 4 _ rfl; (with_reducible repeat (first | refine zf ?_ _ | refine zi ?_ | refine zg ?_ _)); refine zs (cs := #[.string ((rd_T72 l1 x65_3).f0), .int .i64 ((rd_T72 l1 x65_3).f1), .int .i64 ((rd_T72 l1 x65_3).f2), .int .i64 0, .slice none 0 0]) ?_ 3 _ rfl; (with_reducible repeat (first | refine zf ?_ _ | refine zi ?_ | refine zg ?_ _)); refine zs (cs := #[.string ((rd_T72 l1 x65_3).f0), .int .i64 ((rd_T72 l1 x65_3).f1), .int .i64 0, .int .i64 0, .slice none 0 0]) ?_ 2 _ rfl; (with_reducible repeat (first | refine zf ?_ _ | refine zi ?_ | refine zg ?_ _)); refine zs (cs := #[.string ((rd_T72 l1 x65_3).f0), .int .i64 0, .int .i64 0, .int .i64 0, .slice none 0 0]) ?_ 1 _ rfl; (with_reducible repeat (first | refine zf ?_ _ | refine zi ?_ | refine zg ?_ _)); refine zs (cs := #[.string (⟨#[]⟩ : ByteArray), .int .i64 0, .int .i64 0, .int .i64 0, .slice none 0 0]) ?_ 0 _ rfl; (with_reducible repeat (first | refine zf ?_ _ | refine zi ?_ | refine zg ?_ _)); exact BK136.out) : p := h
theorem zK122 {p : Prop} (h : p := by (with_reducible repeat (first | apply zl | apply zm | apply zn)); exact (zx (zy (p := ⟨gb136, 4, none⟩) (zy (p := ⟨gb136, 3, none⟩) (zy (p := ⟨gb136, 2, none⟩) (zy (p := ⟨gb136, 1, none⟩) (zy (p := ⟨gb136, 0, none⟩) (zab HO_7.out BK136.out (by decide)) (fun _ hk => hk.2) (.string ((rd_T72 l1 x65_3).f0))) (fun _ hk => hk.2) (.int .i64 ((rd_T72 l1 x65_3).f1))) (fun _ hk => hk.2) (.int .i64 ((rd_T72 l1 x65_3).f2))) (fun _ hk => hk.2) (.int .i64 ((rd_T72 l1 x65_3).f3))) (fun _ hk => hk.2) (.slice A135_4 ((rd_T72 l1 x65_3).f4).length c135_4)) (fun _ h_ => h_.1))) : p := h
theorem zK123 {p : Prop} (h : p := by (with_reducible repeat (first | refine zf ?_ _ | refine zi ?_ | refine zg ?_ _)); refine zw ?_ NB186_187.out _; (with_reducible repeat (first | refine zf ?_ _ | refine zi ?_ | refine zg ?_ _)); refine zs (cs := #[.slice none 0 0, .int .i64 0]) ?_ 1 _ rfl; (with_reducible repeat (first | refine zf ?_ _ | refine zi ?_ | refine zg ?_ _)); refine zs (cs := #[.slice none 0 0, .int .i64 0]) ?_ 0 _ rfl; (with_reducible repeat (first | refine zf ?_ _ | refine zi ?_ | refine zg ?_ _)); exact BK186.out) : p := h
theorem zK124 {p : Prop} (h : p := by (with_reducible repeat (first | refine zf ?_ _ | refine zi ?_ | refine zg ?_ _)); refine zs (cs := #[.bool false]) ?_ 0 _ rfl; (with_reducible repeat (first | refine zf ?_ _ | refine zi ?_ | refine zg ?_ _)); refine zw ?_ NB187_186.out _; (with_reducible repeat (first | refine zf ?_ _ | refine zi ?_ | refine zg ?_ _)); refine zw ?_ NB187_186.out _; (with_reducible repeat (first | refine zf ?_ _ | refine zi ?_ | refine zg ?_ _)); exact BK187.out) : p := h
theorem zK125 {p : Prop} (h : p := by (with_reducible repeat (first | refine zf ?_ _ | refine zi ?_ | refine zg ?_ _)); refine zw ?_ NB180_187.out _; (with_reducible repeat (first | refine zf ?_ _ | refine zi ?_ | refine zg ?_ _)); refine zw ?_ NB180_186.out _; (with_reducible repeat (first | refine zf ?_ _ | refine zi ?_ | refine zg ?_ _)); refine zw ?_ NB180_186.out _; (with_reducible repeat (first | refine zf ?_ _ | refine zi ?_ | refine zg ?_ _)); exact BK180.out) : p := h
theorem zK126 {p : Prop} (h : p := by (with_reducible repeat (first | refine zf ?_ _ | refine zi ?_ | refine zg ?_ _)); refine zw ?_ NB181_187.out _; (with_reducible repeat (first | refine zf ?_ _ | refine zi ?_ | refine zg ?_ _)); refine zw ?_ NB181_186.out _; (with_reducible repeat (first | refine zf ?_ _ | refine zi ?_ | refine zg ?_ _)); refine zw ?_ NB181_186.out _; (with_reducible repeat (first | refine zf ?_ _ | refine zi ?_ | refine zg ?_ _)); exact BK181.out) : p := h
theorem zK127 {p : Prop} (h : p := by (with_reducible repeat (first | refine zf ?_ _ | refine zi ?_ | refine zg ?_ _)); refine zw ?_ NB182_187.out _; (with_reducible repeat (first | refine zf ?_ _ | refine zi ?_ | refine zg ?_ _)); refine zw ?_ NB182_186.out _; (with_reducible repeat (first | refine zf ?_ _ | refine zi ?_ | refine zg ?_ _)); refine zw ?_ NB182_186.out _; (with_reducible repeat (first | refine zf ?_ _ | refine zi ?_ | refine zg ?_ _)); exact BK182.out) : p := h
theorem zK128 {p : Prop} (h : p := by (with_reducible repeat (first | refine zf ?_ _ | refine zi ?_ | refine zg ?_ _)); refine zs (cs := #[.slice Ao100 t376.length co100, .int .i64 0]) ?_ 1 _ rfl; (with_reducible repeat (first | refine zf ?_ _ | refine zi ?_ | refine zg ?_ _)); refine zs (cs := #[.slice none 0 0, .int .i64 0]) ?_ 0 _ rfl; (with_reducible repeat (first | refine zf ?_ _ | refine zi ?_ | refine zg ?_ _)); exact BK381.out) : p := h
theorem zK129 {p : Prop} (h : p := by (with_reducible repeat (first | refine zf ?_ _ | refine zi ?_ | refine zg ?_ _)); refine zs (cs := #[.slice Ao33 t348.length co33, .int .i64 0]) ?_ 1 _ rfl; (with_reducible repeat (first | refine zf ?_ _ | refine zi ?_ | refine zg ?_ _)); refine zs (cs := #[.slice none 0 0, .int .i64 0]) ?_ 0 _ rfl; (with_reducible repeat (first | refine zf ?_ _ | refine zi ?_ | refine zg ?_ _)); exact BK353.out) : p := h
theorem zK130 {p : Prop} (h : p := by (with_reducible repeat (first | refine zf ?_ _ | refine zi ?_ | refine zg ?_ _)); refine zs (cs := #[.slice none 0 0, .int .i64 0]) ?_ 1 _ rfl; (with_reducible repeat (first | refine zf ?_ _ | refine zi ?_ | refine zg ?_ _)); refine zs (cs := #[.slice none 0 0, .int .i64 0]) ?_ 0 _ rfl; (with_reducible repeat (first | refine zf ?_ _ | refine zi ?_ | refine zg ?_ _)); exact BK243.out) : p := h
theorem zK131 {p : Prop} (h : p := by (with_reducible repeat (first | refine zf ?_ _ | refine zi ?_ | refine zg ?_ _)); refine zs (cs := #[.slice none 0 0, .int .i64 0]) ?_ 1 _ rfl; (with_reducible repeat (first | refine zf ?_ _ | refine zi ?_ | refine zg ?_ _)); refine zs (cs := #[.slice none 0 0, .int .i64 0]) ?_ 0 _ rfl; (with_reducible repeat (first | refine zf ?_ _ | refine zi ?_ | refine zg ?_ _)); exact BK182.out) : p := h
theorem zK132 {p : Prop} (h : p := by first | exact HK.out.1 | exact (show Kept w _ (fun k_ => ((P4_0_ k_) ∨ k_ = gi3) ∨ k_ = gi4) from by repeat (first | (with_reducible first | exact HK.out | apply Kept.alloc | apply Kept.drewN | apply Kept.drew | refine Kept.setCell ?_ (.inl (Or.inl (Or.inr rfl))) _ | refine Kept.setCell ?_ (.inl (Or.inr rfl)) _) | exact HK.out)).1) : p := h
theorem zK133 {p : Prop} (h : p := by (with_reducible repeat (first | refine zf ?_ _ | refine zi ?_ | refine zg ?_ _)); refine zw ?_ NB341_353.out _; (with_reducible repeat (first | refine zf ?_ _ | refine zi ?_ | refine zg ?_ _)); refine zw ?_ NB341_353.out _; (with_reducible repeat (first | refine zf ?_ _ | refine zi ?_ | refine zg ?_ _)); exact BK341.out) : p := h
theorem zK134 {p : Prop} (h : p := by (with_reducible repeat (first | refine zf ?_ _ | refine zi ?_ | refine zg ?_ _)); refine zw ?_ NB341_381.out _; (with_reducible repeat (first | refine zf ?_ _ | refine zi ?_ | refine zg ?_ _)); refine zw ?_ NB341_381.out _; (with_reducible repeat (first | refine zf ?_ _ | refine zi ?_ | refine zg ?_ _)); exact BK341.out) : p := h
theorem zK135 {p : Prop} (h : p := by (with_reducible repeat (first | refine zf ?_ _ | refine zi ?_ | refine zg ?_ _)); refine zw ?_ NB353_381.out _; (with_reducible repeat (first | refine zf ?_ _ | refine zi ?_ | refine zg ?_ _)); refine zw ?_ NB353_381.out _; (with_reducible repeat (first | refine zf ?_ _ | refine zi ?_ | refine zg ?_ _)); exact BK353.out) : p := h
theorem zK136 {p : Prop} (h : p := by first | exact Nat.ne_of_lt (Nat.lt_of_lt_of_le zG91 GW154.out) | (rw [add_block]; exact Nat.ne_of_lt (Nat.lt_of_lt_of_le zG91 GW154.out)) | (show (Addr.add _ _).block ≠ _; rw [add_block]; exact Nat.ne_of_lt (Nat.lt_of_lt_of_le zG91 GW154.out)) | (dsimp only; exact Nat.ne_of_lt (Nat.lt_of_lt_of_le zG91 GW154.out))) : p := h
theorem zK137 {p : Prop} (h : p := by first | exact Nat.ne_of_lt (Nat.lt_of_lt_of_le zG92 GW154.out) | (rw [add_block]; exact Nat.ne_of_lt (Nat.lt_of_lt_of_le zG92 GW154.out)) | (show (Addr.add _ _).block ≠ _; rw [add_block]; exact Nat.ne_of_lt (Nat.lt_of_lt_of_le zG92 GW154.out)) | (dsimp only; exact Nat.ne_of_lt (Nat.lt_of_lt_of_le zG92 GW154.out))) : p := h
theorem zK138 {p : Prop} (h : p := by first | exact Nat.ne_of_lt (Nat.lt_of_lt_of_le zG93 GW154.out) | (rw [add_block]; exact Nat.ne_of_lt (Nat.lt_of_lt_of_le zG93 GW154.out)) | (show (Addr.add _ _).block ≠ _; rw [add_block]; exact Nat.ne_of_lt (Nat.lt_of_lt_of_le zG93 GW154.out)) | (dsimp only; exact Nat.ne_of_lt (Nat.lt_of_lt_of_le zG93 GW154.out))) : p := h
theorem zK139 {p : Prop} (h : p := by first | exact Nat.ne_of_lt (Nat.lt_of_lt_of_le zG94 GW154.out) | (rw [add_block]; exact Nat.ne_of_lt (Nat.lt_of_lt_of_le zG94 GW154.out)) | (show (Addr.add _ _).block ≠ _; rw [add_block]; exact Nat.ne_of_lt (Nat.lt_of_lt_of_le zG94 GW154.out)) | (dsimp only; exact Nat.ne_of_lt (Nat.lt_of_lt_of_le zG94 GW154.out))) : p := h
theorem zK140 {p : Prop} (h : p := by first | exact Nat.ne_of_lt (Nat.lt_of_lt_of_le zG95 GW154.out) | (rw [add_block]; exact Nat.ne_of_lt (Nat.lt_of_lt_of_le zG95 GW154.out)) | (show (Addr.add _ _).block ≠ _; rw [add_block]; exact Nat.ne_of_lt (Nat.lt_of_lt_of_le zG95 GW154.out)) | (dsimp only; exact Nat.ne_of_lt (Nat.lt_of_lt_of_le zG95 GW154.out))) : p := h
theorem zK141 {p : Prop} (h : p := by first | exact Nat.ne_of_lt (Nat.lt_of_lt_of_le zG96 GW154.out) | (rw [add_block]; exact Nat.ne_of_lt (Nat.lt_of_lt_of_le zG96 GW154.out)) | (show (Addr.add _ _).block ≠ _; rw [add_block]; exact Nat.ne_of_lt (Nat.lt_of_lt_of_le zG96 GW154.out)) | (dsimp only; exact Nat.ne_of_lt (Nat.lt_of_lt_of_le zG96 GW154.out))) : p := h
theorem zK142 {p : Prop} (h : p := by first | exact Nat.ne_of_lt (Nat.lt_of_lt_of_le zG97 GW154.out) | (rw [add_block]; exact Nat.ne_of_lt (Nat.lt_of_lt_of_le zG97 GW154.out)) | (show (Addr.add _ _).block ≠ _; rw [add_block]; exact Nat.ne_of_lt (Nat.lt_of_lt_of_le zG97 GW154.out)) | (dsimp only; exact Nat.ne_of_lt (Nat.lt_of_lt_of_le zG97 GW154.out))) : p := h
theorem zK143 {p : Prop} (h : p := by first | exact Nat.ne_of_lt (Nat.lt_of_lt_of_le zG98 GW154.out) | (rw [add_block]; exact Nat.ne_of_lt (Nat.lt_of_lt_of_le zG98 GW154.out)) | (show (Addr.add _ _).block ≠ _; rw [add_block]; exact Nat.ne_of_lt (Nat.lt_of_lt_of_le zG98 GW154.out)) | (dsimp only; exact Nat.ne_of_lt (Nat.lt_of_lt_of_le zG98 GW154.out))) : p := h
theorem zK144 {p : Prop} (h : p := by first | exact Nat.ne_of_lt (Nat.lt_of_lt_of_le zG91 GW155.out) | (rw [add_block]; exact Nat.ne_of_lt (Nat.lt_of_lt_of_le zG91 GW155.out)) | (show (Addr.add _ _).block ≠ _; rw [add_block]; exact Nat.ne_of_lt (Nat.lt_of_lt_of_le zG91 GW155.out)) | (dsimp only; exact Nat.ne_of_lt (Nat.lt_of_lt_of_le zG91 GW155.out))) : p := h
theorem zK145 {p : Prop} (h : p := by first | exact Nat.ne_of_lt (Nat.lt_of_lt_of_le zG92 GW155.out) | (rw [add_block]; exact Nat.ne_of_lt (Nat.lt_of_lt_of_le zG92 GW155.out)) | (show (Addr.add _ _).block ≠ _; rw [add_block]; exact Nat.ne_of_lt (Nat.lt_of_lt_of_le zG92 GW155.out)) | (dsimp only; exact Nat.ne_of_lt (Nat.lt_of_lt_of_le zG92 GW155.out))) : p := h
theorem zK146 {p : Prop} (h : p := by first | exact Nat.ne_of_lt (Nat.lt_of_lt_of_le zG93 GW155.out) | (rw [add_block]; exact Nat.ne_of_lt (Nat.lt_of_lt_of_le zG93 GW155.out)) | (show (Addr.add _ _).block ≠ _; rw [add_block]; exact Nat.ne_of_lt (Nat.lt_of_lt_of_le zG93 GW155.out)) | (dsimp only; exact Nat.ne_of_lt (Nat.lt_of_lt_of_le zG93 GW155.out))) : p := h
theorem zK147 {p : Prop} (h : p := by first | exact Nat.ne_of_lt (Nat.lt_of_lt_of_le zG94 GW155.out) | (rw [add_block]; exact Nat.ne_of_lt (Nat.lt_of_lt_of_le zG94 GW155.out)) | (show (Addr.add _ _).block ≠ _; rw [add_block]; exact Nat.ne_of_lt (Nat.lt_of_lt_of_le zG94 GW155.out)) | (dsimp only; exact Nat.ne_of_lt (Nat.lt_of_lt_of_le zG94 GW155.out))) : p := h
theorem zK148 {p : Prop} (h : p := by first | exact Nat.ne_of_lt (Nat.lt_of_lt_of_le zG95 GW155.out) | (rw [add_block]; exact Nat.ne_of_lt (Nat.lt_of_lt_of_le zG95 GW155.out)) | (show (Addr.add _ _).block ≠ _; rw [add_block]; exact Nat.ne_of_lt (Nat.lt_of_lt_of_le zG95 GW155.out)) | (dsimp only; exact Nat.ne_of_lt (Nat.lt_of_lt_of_le zG95 GW155.out))) : p := h
theorem zK149 {p : Prop} (h : p := by first | exact Nat.ne_of_lt (Nat.lt_of_lt_of_le zG96 GW155.out) | (rw [add_block]; exact Nat.ne_of_lt (Nat.lt_of_lt_of_le zG96 GW155.out)) | (show (Addr.add _ _).block ≠ _; rw [add_block]; exact Nat.ne_of_lt (Nat.lt_of_lt_of_le zG96 GW155.out)) | (dsimp only; exact Nat.ne_of_lt (Nat.lt_of_lt_of_le zG96 GW155.out))) : p := h
theorem zK150 {p : Prop} (h : p := by first | exact Nat.ne_of_lt (Nat.lt_of_lt_of_le zG97 GW155.out) | (rw [add_block]; exact Nat.ne_of_lt (Nat.lt_of_lt_of_le zG97 GW155.out)) | (show (Addr.add _ _).block ≠ _; rw [add_block]; exact Nat.ne_of_lt (Nat.lt_of_lt_of_le zG97 GW155.out)) | (dsimp only; exact Nat.ne_of_lt (Nat.lt_of_lt_of_le zG97 GW155.out))) : p := h
theorem zK151 {p : Prop} (h : p := by first | exact Nat.ne_of_lt (Nat.lt_of_lt_of_le zG98 GW155.out) | (rw [add_block]; exact Nat.ne_of_lt (Nat.lt_of_lt_of_le zG98 GW155.out)) | (show (Addr.add _ _).block ≠ _; rw [add_block]; exact Nat.ne_of_lt (Nat.lt_of_lt_of_le zG98 GW155.out)) | (dsimp only; exact Nat.ne_of_lt (Nat.lt_of_lt_of_le zG98 GW155.out))) : p := h
theorem zK152 {p : Prop} (h : p := by (try simp only [List.map_toArray, List.map_cons, List.map_nil]); first | done | (rw [show (l0.take (x7_1 : Int).toNat).length = x7_1.toNat from (by rw [List.length_take]; have h_ : (x7_1 : Int) ≤ (l0.length : Int) := zO; omega)] <;> rfl) | rfl | (simp only [List.length_drop, List.length_take]; rfl)) : p := h
theorem zK153 {p : Prop} (h : p := by (with_reducible repeat (first | apply zac | apply zad | apply zae)); exact (zau (zaw (p := ⟨gb381, 1, none⟩) (zaw (p := ⟨gb381, 0, none⟩) (zbe HO375.out BK381.out (by decide)) (fun _ hk => hk.2) (.slice Ao100 t376.length co100)) (fun _ hk => hk.2) (.int .i64 t379)) (fun _ h_ => h_.1))) : p := h
theorem zK154 {p : Prop} (h : p := by (with_reducible repeat (first | apply zac | apply zad | apply zae)); exact (zau (zaw (p := ⟨gb353, 1, none⟩) (zaw (p := ⟨gb353, 0, none⟩) (zbe HO335.out BK353.out (by decide)) (fun _ hk => hk.2) (.slice Ao33 t348.length co33)) (fun _ hk => hk.2) (.int .i64 t351)) (fun _ h_ => h_.1))) : p := h
theorem zK155 {p : Prop} (h : p := by (with_reducible repeat (first | apply zac | apply zad | apply zae)); exact (zau (zaw (p := ⟨gb353, 1, none⟩) (zaw (p := ⟨gb353, 0, none⟩) (zbe HO347.out BK353.out (by decide)) (fun _ hk => hk.2) (.slice Ao33 t348.length co33)) (fun _ hk => hk.2) (.int .i64 t351)) (fun _ h_ => h_.1))) : p := h
theorem zK156 {p : Prop} (h : p := by (with_reducible repeat (first | apply zl | apply zm | apply zn)); exact (zx (zy (p := ⟨gb381, 1, none⟩) (zy (p := ⟨gb381, 0, none⟩) (zab HO_342000.out BK381.out (by decide)) (fun _ hk => hk.2) (.slice Ao100 t376.length co100)) (fun _ hk => hk.2) (.int .i64 t379)) (fun _ h_ => h_.1))) : p := h
theorem zK157 {p : Prop} (h : p := by (with_reducible repeat (first | apply zl | apply zm | apply zn)); exact (zx (zy (p := ⟨gb381, 1, none⟩) (zy (p := ⟨gb381, 0, none⟩) (zab HO_354000.out BK381.out (by decide)) (fun _ hk => hk.2) (.slice Ao100 t376.length co100)) (fun _ hk => hk.2) (.int .i64 t379)) (fun _ h_ => h_.1))) : p := h
theorem zK158 {p : Prop} (h : p := by (with_reducible repeat (first | apply zl | apply zm | apply zn)); exact (zx (zy (p := ⟨gb381, 1, none⟩) (zy (p := ⟨gb381, 0, none⟩) (zab HO372.out BK381.out (by decide)) (fun _ hk => hk.2) (.slice Ao100 t376.length co100)) (fun _ hk => hk.2) (.int .i64 t379)) (fun _ h_ => h_.1))) : p := h
theorem zK159 {p : Prop} (h : p := by (with_reducible repeat (first | apply zl | apply zm | apply zn)); exact (zx (zy (p := ⟨gb381, 1, none⟩) (zy (p := ⟨gb381, 0, none⟩) (zab HO378.out BK381.out (by decide)) (fun _ hk => hk.2) (.slice Ao100 t376.length co100)) (fun _ hk => hk.2) (.int .i64 t379)) (fun _ h_ => h_.1))) : p := h
theorem zK160 {p : Prop} (h : p := by (with_reducible repeat (first | apply zl | apply zm | apply zn)); exact (zx (zy (p := ⟨gb341, 1, none⟩) (zy (p := ⟨gb341, 0, none⟩) (zab HO332.out BK341.out (by decide)) (fun _ hk => hk.2) (.slice Ao25 t336.length co25)) (fun _ hk => hk.2) (.int .i64 t339)) (fun _ h_ => h_.1))) : p := h
theorem zK161 {p : Prop} (h : p := by (with_reducible repeat (first | apply zl | apply zm | apply zn)); exact (zx (zy (p := ⟨gb353, 1, none⟩) (zy (p := ⟨gb353, 0, none⟩) (zab HO332.out BK353.out (by decide)) (fun _ hk => hk.2) (.slice Ao33 t348.length co33)) (fun _ hk => hk.2) (.int .i64 t351)) (fun _ h_ => h_.1))) : p := h
theorem zK162 {p : Prop} (h : p := by (with_reducible repeat (first | apply zl | apply zm | apply zn)); exact (zx (zy (p := ⟨gb353, 1, none⟩) (zy (p := ⟨gb353, 0, none⟩) (zab HO338.out BK353.out (by decide)) (fun _ hk => hk.2) (.slice Ao33 t348.length co33)) (fun _ hk => hk.2) (.int .i64 t351)) (fun _ h_ => h_.1))) : p := h
theorem zK163 {p : Prop} (h : p := by (with_reducible repeat (first | apply zl | apply zm | apply zn)); exact (zx (zy (p := ⟨gb353, 1, none⟩) (zy (p := ⟨gb353, 0, none⟩) (zab HO344.out BK353.out (by decide)) (fun _ hk => hk.2) (.slice Ao33 t348.length co33)) (fun _ hk => hk.2) (.int .i64 t351)) (fun _ h_ => h_.1))) : p := h
theorem zK164 {p : Prop} (h : p := by (with_reducible repeat (first | apply zl | apply zm | apply zn)); exact (zx (zy (p := ⟨gb353, 1, none⟩) (zy (p := ⟨gb353, 0, none⟩) (zab HO350.out BK353.out (by decide)) (fun _ hk => hk.2) (.slice Ao33 t348.length co33)) (fun _ hk => hk.2) (.int .i64 t351)) (fun _ h_ => h_.1))) : p := h
theorem zK165 {p : Prop} (h : p := by rw [hw]; exact (by repeat (first | (with_reducible first | exact HB.out | apply ze | apply zc | apply zd | refine zh ?_ GE180.out | refine zh ?_ GE181.out | refine zh ?_ GE182.out | refine zh ?_ GE186.out | refine zh ?_ GE187.out | refine zh ?_ GE188.out) | exact HB.out))) : p := h
theorem zK166 {p : Prop} (h : p := by first | exact HK.out.1 | exact (show Kept w _ (fun k_ => (P0_2_ k_ ∨ P1_ k_) ∨ k_ = gi0) from by repeat (first | (with_reducible first | exact HK.out | apply Kept.alloc | apply Kept.drewN | apply Kept.drew | refine Kept.setCell ?_ (.inl (Or.inr rfl)) _) | exact HK.out)).1) : p := h
theorem zK167 {p : Prop} (h : p := by rw [hw]; exact (by (with_reducible repeat (first | refine zf ?_ _ | refine zi ?_ | refine zg ?_ _)); refine zs (cs := #[.nilFunc]) ?_ 0 _ rfl; (with_reducible repeat (first | refine zf ?_ _ | refine zi ?_ | refine zg ?_ _)); exact BK188.out)) : p := h
theorem zK168 {p : Prop} (h : p := by rw [hw]; exact (by (with_reducible repeat (first | refine zf ?_ _ | refine zi ?_ | refine zg ?_ _)); refine zw ?_ NB180_188.out _; (with_reducible repeat (first | refine zf ?_ _ | refine zi ?_ | refine zg ?_ _)); exact BK180.out)) : p := h
theorem zK169 {p : Prop} (h : p := by rw [hw]; exact (by (with_reducible repeat (first | refine zf ?_ _ | refine zi ?_ | refine zg ?_ _)); refine zw ?_ NB181_188.out _; (with_reducible repeat (first | refine zf ?_ _ | refine zi ?_ | refine zg ?_ _)); exact BK181.out)) : p := h
theorem zK170 {p : Prop} (h : p := by rw [hw]; exact (by (with_reducible repeat (first | refine zf ?_ _ | refine zi ?_ | refine zg ?_ _)); refine zw ?_ NB182_188.out _; (with_reducible repeat (first | refine zf ?_ _ | refine zi ?_ | refine zg ?_ _)); exact BK182.out)) : p := h
theorem zK171 {p : Prop} (h : p := by rw [hw]; exact (by (with_reducible repeat (first | refine zf ?_ _ | refine zi ?_ | refine zg ?_ _)); refine zw ?_ NB186_188.out _; (with_reducible repeat (first | refine zf ?_ _ | refine zi ?_ | refine zg ?_ _)); exact BK186.out)) : p := h
theorem zK172 {p : Prop} (h : p := by rw [hw]; exact (by (with_reducible repeat (first | refine zf ?_ _ | refine zi ?_ | refine zg ?_ _)); refine zw ?_ NB187_188.out _; (with_reducible repeat (first | refine zf ?_ _ | refine zi ?_ | refine zg ?_ _)); exact BK187.out)) : p := h
theorem zK173 {p : Prop} (h : p := by (try simp only [List.map_toArray, List.map_cons, List.map_nil]); first | done | (rw [show t368.length = t348.length from (Kd.R_reads' HO_354000.out).1.symm] <;> rfl) | rfl | (simp only [List.length_drop, List.length_take]; rfl)) : p := h
theorem zK174 {p : Prop} (h : p := by repeat (first | (with_reducible first | exact HB.out | apply ze | apply zc | apply zd | refine zh ?_ GE180.out | refine zh ?_ GE181.out | refine zh ?_ GE182.out | refine zh ?_ GE186.out | refine zh ?_ GE187.out) | exact HB.out)) : p := h
theorem zK175 {p : Prop} (h : p := by repeat (first | (with_reducible first | exact HB.out | apply ze | apply zc | apply zd | refine zh ?_ GE180.out | refine zh ?_ GE181.out | refine zh ?_ GE182.out | refine zh ?_ GE186.out) | exact HB.out)) : p := h
theorem zK176 {p : Prop} (h : p := by repeat (first | (with_reducible first | exact HB.out | apply ze | apply zc | apply zd | refine zh ?_ GE341.out | refine zh ?_ GE353.out | refine zh ?_ GE381.out) | exact HB.out)) : p := h
theorem zK177 {p : Prop} (h : p := by repeat (first | (with_reducible first | exact HB.out | apply ze | apply zc | apply zd | refine zh ?_ GE278.out | refine zh ?_ GE279.out | refine zh ?_ GE280.out) | exact HB.out)) : p := h
theorem zK178 {p : Prop} (h : p := by repeat (first | (with_reducible first | exact HB.out | apply ze | apply zc | apply zd | refine zh ?_ GE243.out | refine zh ?_ GE245.out) | exact HB.out)) : p := h
theorem zK179 {p : Prop} (h : p := by repeat (first | (with_reducible first | exact HB.out | apply ze | apply zc | apply zd | refine zh ?_ GE262.out | refine zh ?_ GE263.out) | exact HB.out)) : p := h
theorem zK180 {p : Prop} (h : p := by repeat (first | (with_reducible first | exact HB.out | apply ze | apply zc | apply zd | refine zh ?_ GE180.out | refine zh ?_ GE181.out) | exact HB.out)) : p := h
theorem zK181 {p : Prop} (h : p := by repeat (first | (with_reducible first | exact HB.out | apply ze | apply zc | apply zd | refine zh ?_ GE278.out | refine zh ?_ GE279.out) | exact HB.out)) : p := h
theorem zK182 {p : Prop} (h : p := by repeat (first | (with_reducible first | exact HB.out | apply ze | apply zc | apply zd | refine zh ?_ GE243.out) | exact HB.out)) : p := h
theorem zK183 {p : Prop} (h : p := by repeat (first | (with_reducible first | exact HB.out | apply ze | apply zc | apply zd | refine zh ?_ GE262.out) | exact HB.out)) : p := h
theorem zK184 {p : Prop} (h : p := by repeat (first | (with_reducible first | exact HB.out | apply ze | apply zc | apply zd | refine zh ?_ GE180.out) | exact HB.out)) : p := h
theorem zK185 {p : Prop} (h : p := by repeat (first | (with_reducible first | exact HB.out | apply ze | apply zc | apply zd | refine zh ?_ GE122.out) | exact HB.out)) : p := h
theorem zK186 {p : Prop} (h : p := by repeat (first | (with_reducible first | exact HB.out | apply ze | apply zc | apply zd | refine zh ?_ GE154.out) | exact HB.out)) : p := h
theorem zK187 {p : Prop} (h : p := by repeat (first | (with_reducible first | exact HB.out | apply ze | apply zc | apply zd | refine zh ?_ GE155.out) | exact HB.out)) : p := h
theorem zK188 {p : Prop} (h : p := by repeat (first | (with_reducible first | exact HB.out | apply ze | apply zc | apply zd | refine zh ?_ GE136.out) | exact HB.out)) : p := h
theorem zK189 {p : Prop} (h : p := by repeat (first | (with_reducible first | exact HB.out | apply ze | apply zc | apply zd | refine zh ?_ GE278.out) | exact HB.out)) : p := h
theorem zK190 {p : Prop} (h : p := by repeat (first | (with_reducible first | exact HB.out | apply ze | apply zc | apply zd | refine zh ?_ GE298.out) | exact HB.out)) : p := h
theorem zK191 {p : Prop} (h : p := by repeat (first | (with_reducible first | exact HK.out | apply Kept.alloc | apply Kept.drewN | apply Kept.drew) | exact HK.out)) : p := h
theorem zK192 {p : Prop} (h : p := by (with_reducible repeat (first | apply zl | apply zm | apply zn)); exact zx HO168.out (fun _ hk => ⟨hk.1.1.1, ⟨hk.2, hk.1.2⟩⟩)) : p := h
theorem zK193 {p : Prop} (h : p := by (with_reducible repeat (first | apply zl | apply zm | apply zn)); exact zx HO171.out (fun _ hk => ⟨hk.1.1.1, ⟨hk.2, hk.1.2⟩⟩)) : p := h
theorem zK194 {p : Prop} (h : p := by first | (rw [add_block]; exact hn219_0) | (show (Addr.add _ _).block ≠ _; rw [add_block]; exact hn219_0) | exact hn219_0) : p := h
theorem zK195 {p : Prop} (h : p := by first | (rw [add_block]; exact hn219_1) | (show (Addr.add _ _).block ≠ _; rw [add_block]; exact hn219_1) | exact hn219_1) : p := h
theorem zK196 {p : Prop} (h : p := by first | (rw [add_block]; exact hn219_2) | (show (Addr.add _ _).block ≠ _; rw [add_block]; exact hn219_2) | exact hn219_2) : p := h
theorem zK197 {p : Prop} (h : p := by first | (rw [add_block]; exact hn219_3) | (show (Addr.add _ _).block ≠ _; rw [add_block]; exact hn219_3) | exact hn219_3) : p := h
theorem zK198 {p : Prop} (h : p := by first | (rw [add_block]; exact hn219_4) | (show (Addr.add _ _).block ≠ _; rw [add_block]; exact hn219_4) | exact hn219_4) : p := h
theorem zK199 {p : Prop} (h : p := by first | (rw [add_block]; exact hn220_0) | (show (Addr.add _ _).block ≠ _; rw [add_block]; exact hn220_0) | exact hn220_0) : p := h
theorem zK200 {p : Prop} (h : p := by first | (rw [add_block]; exact hn220_1) | (show (Addr.add _ _).block ≠ _; rw [add_block]; exact hn220_1) | exact hn220_1) : p := h
theorem zK201 {p : Prop} (h : p := by first | (rw [add_block]; exact hn220_2) | (show (Addr.add _ _).block ≠ _; rw [add_block]; exact hn220_2) | exact hn220_2) : p := h
theorem zK202 {p : Prop} (h : p := by first | (rw [add_block]; exact hn220_3) | (show (Addr.add _ _).block ≠ _; rw [add_block]; exact hn220_3) | exact hn220_3) : p := h
theorem zK203 {p : Prop} (h : p := by first | (rw [add_block]; exact hn220_4) | (show (Addr.add _ _).block ≠ _; rw [add_block]; exact hn220_4) | exact hn220_4) : p := h
theorem zK204 {p : Prop} (h : p := by (with_reducible repeat (first | refine zf ?_ _ | refine zi ?_ | refine zg ?_ _)); exact BK381.out) : p := h
theorem zK205 {p : Prop} (h : p := by (with_reducible repeat (first | refine zf ?_ _ | refine zi ?_ | refine zg ?_ _)); exact BK262.out) : p := h
theorem zK206 {p : Prop} (h : p := by (with_reducible repeat (first | refine zf ?_ _ | refine zi ?_ | refine zg ?_ _)); exact BK263.out) : p := h
theorem zK207 {p : Prop} (h : p := by (with_reducible repeat (first | refine zf ?_ _ | refine zi ?_ | refine zg ?_ _)); exact BK186.out) : p := h
theorem zK208 {p : Prop} (h : p := by (with_reducible repeat (first | refine zf ?_ _ | refine zi ?_ | refine zg ?_ _)); exact BK154.out) : p := h
theorem zK209 {p : Prop} (h : p := by (with_reducible repeat (first | refine zf ?_ _ | refine zi ?_ | refine zg ?_ _)); exact BK155.out) : p := h
theorem zK210 {p : Prop} (h : p := by (with_reducible repeat (first | refine zf ?_ _ | refine zi ?_ | refine zg ?_ _)); exact BK278.out) : p := h
theorem zK211 {p : Prop} (h : p := by (with_reducible repeat (first | refine zf ?_ _ | refine zi ?_ | refine zg ?_ _)); exact BK279.out) : p := h
theorem zK212 {p : Prop} (h : p := by (with_reducible repeat (first | refine zf ?_ _ | refine zi ?_ | refine zg ?_ _)); exact BK298.out) : p := h
theorem zK213 {p : Prop} (h : p := by (with_reducible repeat (first | refine zf ?_ _ | refine zi ?_ | refine zg ?_ _)); exact BK301.out) : p := h
theorem zK214 {p : Prop} (h : p := by simp only [putAll, Act.put, List.setIfInBounds_toArray, List.set_cons_zero, List.set_cons_succ]) : p := h
theorem zK215 {p : Prop} (h : p := by (with_reducible repeat (first | refine zf ?_ _ | refine zi ?_ | refine zg ?_ _)); exact BK1.out) : p := h
theorem zK216 {p : Prop} (h : p := by (with_reducible repeat (first | refine zf ?_ _ | refine zi ?_ | refine zg ?_ _)); exact BK2.out) : p := h
theorem zK217 {p : Prop} (h : p := by (with_reducible repeat (first | refine zf ?_ _ | refine zi ?_ | refine zg ?_ _)); exact BK5.out) : p := h
theorem zK218 {p : Prop} (h : p := by (with_reducible repeat (first | refine zf ?_ _ | refine zi ?_ | refine zg ?_ _)); exact BK0.out) : p := h
theorem zK219 {p : Prop} (h : p := by (with_reducible repeat (first | apply zl | apply zm | apply zn)); exact HO_382000.out) : p := h
theorem zK220 {p : Prop} (h : p := by (with_reducible repeat (first | apply zac | apply zad | apply zae)); exact HO335.out) : p := h
theorem zK221 {p : Prop} (h : p := by (with_reducible repeat (first | apply zac | apply zad | apply zae)); exact HO_9.out) : p := h
theorem zK222 {p : Prop} (h : p := by (try simp only [List.map_toArray, List.map_cons, List.map_nil]); first | done | rfl) : p := h
theorem zK223 {p : Prop} (h : p := by (with_reducible repeat (first | apply zl | apply zm | apply zn)); exact HO_5000.out) : p := h
theorem zK224 {p : Prop} (h : p := by (with_reducible repeat (first | apply zl | apply zm | apply zn)); exact HO_1002.out) : p := h
theorem zK225 {p : Prop} (h : p := by (with_reducible repeat (first | apply zl | apply zm | apply zn)); exact HO332.out) : p := h
theorem zK226 {p : Prop} (h : p := by (with_reducible repeat (first | apply zl | apply zm | apply zn)); exact HO338.out) : p := h
theorem zK227 {p : Prop} (h : p := by (with_reducible repeat (first | apply zl | apply zm | apply zn)); exact HO344.out) : p := h
theorem zK228 {p : Prop} (h : p := by (with_reducible repeat (first | apply zl | apply zm | apply zn)); exact HO357.out) : p := h
theorem zK229 {p : Prop} (h : p := by (with_reducible repeat (first | apply zl | apply zm | apply zn)); exact HO372.out) : p := h
theorem zK230 {p : Prop} (h : p := by (with_reducible repeat (first | apply zl | apply zm | apply zn)); exact HO171.out) : p := h
theorem zK231 {p : Prop} (h : p := by (with_reducible repeat (first | apply zl | apply zm | apply zn)); exact HO_0.out) : p := h
theorem zK232 {p : Prop} (h : p := by (with_reducible repeat (first | apply zl | apply zm | apply zn)); exact HO_7.out) : p := h
theorem zK233 {p : Prop} (h : p := by have := za _ _ hx219_0; first | rwa [add_block] at this | exact this) : p := h
theorem zK234 {p : Prop} (h : p := by have := za _ _ hx220_0; first | rwa [add_block] at this | exact this) : p := h
end Go.Proofs.Ytojncbpeeboooaa.U
