-- squeezed
-- made by pp.py (wip/tools) out of the translation; Lean checks it
import Derived.Test.YtoibmbkmpadmnaaProg
import Derived.Below
import Derived.Deep.Draws
import Derived.Deep.AppendLies
import Derived.Maps.AppendAt
import Derived.OwnWalk
import Derived.Laws.BytesArg
import Derived.Laws.MakeOwn
import Derived.Laws.OwnMore
import Derived.Deep.OwnRows
import Derived.Tactics
import Derived.Lib.ConvBytes
import Derived.Laws.Slices
import Derived.WalkKit
import Derived.KernelRfl
import Derived.RowKit3
import Derived.Deep.LoopGhost
import Derived.Deep.QuietTactic
import Derived.BigQuiet
import Derived.WideLaws
import Derived.Deep.DeepCutAuto
import Derived.Deep.CutBlock
import Derived.Deep.RegionHeld3
import Derived.Laws.Rows
import Derived.Lib.AppendStr
import Derived.ArgAppend
import Derived.Laws.IdiomCopy
import Derived.OrdersHeld
import Derived.Laws.BitsLemmas
import Derived.RowKit
import Derived.Test.YtoibmbkmpadmnaaFloat
import Derived.Test.YtoibmbkmpadmnaaWWords
import Derived.Test.YtoibmbkmpadmnaaWLast
import Derived.Test.YtoibmbkmpadmnaaWTab
import Derived.Test.YtoibmbkmpadmnaaWFour
import Derived.Test.YtoibmbkmpadmnaaWQPut
import Derived.Test.YtoibmbkmpadmnaaWApart
import Derived.Test.YtoibmbkmpadmnaaWArr
import Derived.Test.YtoibmbkmpadmnaaWZeros
import Derived.Test.YtoibmbkmpadmnaaWFoot
import Derived.Test.YtoibmbkmpadmnaaWKept
import Derived.Test.YtoibmbkmpadmnaaWShare
import Derived.Test.YtoibmbkmpadmnaaWN
import Derived.Test.YtoibmbkmpadmnaaWFootNe
import Derived.Test.YtoibmbkmpadmnaaWAt
import Derived.Test.YtoibmbkmpadmnaaWEqStruct
import Derived.Test.YtoibmbkmpadmnaaWRepsOne
import Derived.Test.YtoibmbkmpadmnaaWInv
import Derived.Test.YtoibmbkmpadmnaaWInvWords
import Derived.Test.YtoibmbkmpadmnaaWGuard
import Derived.Test.YtoibmbkmpadmnaaWNEv
import Derived.Test.YtoibmbkmpadmnaaWMore
namespace Go.Proofs.Ytoibmbkmpadmnaa.G
open Go.RowKit Go.Proofs.YtoibmbkmpadmnaaW.PrintWords Go.Proofs.YtoibmbkmpadmnaaW.PrintLast Go.Proofs.YtoibmbkmpadmnaaW.PrintMore
attribute [local go_sem] max2_int min2_int max_two min_two max_three min_three max_four min_four   -- for this text's walks alone
set_option linter.unusedVariables false
set_option linter.unusedSimpArgs false



abbrev q0a := @Kd.C_get
def errW : Option Int → Value
 | none => .nilIface
 | some c => .iface 0 (.int .i64 c)
theorem errW_none : errW none = .nilIface := rfl
theorem errW_some (c : Int) : errW (some c) = .iface 0 (.int .i64 c) := rfl

theorem info3 : (Try.prog.info? 3).map (fun i => (i.zero, i.size, i.bytes)) = some (some (.int .i64 0), 1, 8) := by kernel_rfl
theorem info5 : (Try.prog.info? 5).map (fun i => (i.zero, i.size, i.bytes)) = some (some (.int .u8 0), 1, 1) := by kernel_rfl
theorem info9 : (Try.prog.info? 9).map (fun i => (i.zero, i.size, i.bytes)) = some (some (.string ⟨#[]⟩), 1, 16) := by kernel_rfl
theorem info35 : (Try.prog.info? 35).map (fun i => (i.zero, i.size, i.bytes)) = some (some (.agg #[(.int .i64 0), (.int .i64 0), (.int .i64 0), (.int .i64 0), (.string ⟨#[]⟩), (.int .i64 0)]), 6, 56) := by kernel_rfl
theorem info39 : (Try.prog.info? 39).map (fun i => (i.zero, i.size, i.bytes)) = some (some (.agg #[(.string ⟨#[]⟩), (.int .i64 0), (.int .i64 0), (.int .i64 0)]), 4, 40) := by kernel_rfl
-- the values' own types
/-! #### struct type 35 -/
structure S35 where
 f0 : Int
 f1 : Int
 f2 : Int
 f3 : Int
 f4 : ByteArray
 f5 : Int
def z35 : S35 := ⟨(0 : Int), (0 : Int), (0 : Int), (0 : Int), (⟨#[]⟩ : ByteArray), (0 : Int)⟩
def k35 : Kd S35 := Kd.iso (Kd.pair (Kd.int .i64) (Kd.pair (Kd.int .i64) (Kd.pair (Kd.int .i64) (Kd.pair (Kd.int .i64) (Kd.pair Kd.string (Kd.int .i64)))))) (fun x : S35 => (x.f0, x.f1, x.f2, x.f3, x.f4, x.f5))
theorem k35_open {w : World} {x : S35} {cs : List Value} (h : k35.K w x cs) : cs = [.int .i64 x.f0, .int .i64 x.f1, .int .i64 x.f2, .int .i64 x.f3, .string x.f4, .int .i64 x.f5] := by
 obtain ⟨_, _, rfl, rfl, ⟨_, _, rfl, rfl, ⟨_, _, rfl, rfl, ⟨_, _, rfl, rfl, ⟨_, _, rfl, rfl, rfl⟩⟩⟩⟩⟩ := h
 exact rfl
theorem k35_openM {w : World} {base : Nat} {ok : Nat → Prop} {x : S35} {cs : List Value} (h : k35.M w base ok x cs) : cs = [.int .i64 x.f0, .int .i64 x.f1, .int .i64 x.f2, .int .i64 x.f3, .string x.f4, .int .i64 x.f5] := by
 obtain ⟨_, _, rfl, rfl, ⟨_, _, rfl, rfl, ⟨_, _, rfl, rfl, ⟨_, _, rfl, rfl, ⟨_, _, rfl, rfl, rfl⟩⟩⟩⟩⟩ := h
 exact rfl
theorem k35_mk (w : World) (x : S35)  : k35.K w x [.int .i64 x.f0, .int .i64 x.f1, .int .i64 x.f2, .int .i64 x.f3, .string x.f4, .int .i64 x.f5] := ⟨[.int .i64 x.f0], [.int .i64 x.f1, .int .i64 x.f2, .int .i64 x.f3, .string x.f4, .int .i64 x.f5], rfl, rfl, ⟨[.int .i64 x.f1], [.int .i64 x.f2, .int .i64 x.f3, .string x.f4, .int .i64 x.f5], rfl, rfl, ⟨[.int .i64 x.f2], [.int .i64 x.f3, .string x.f4, .int .i64 x.f5], rfl, rfl, ⟨[.int .i64 x.f3], [.string x.f4, .int .i64 x.f5], rfl, rfl, ⟨[.string x.f4], [.int .i64 x.f5], rfl, rfl, rfl⟩⟩⟩⟩⟩
theorem k35_mkM (w : World) (base : Nat) (ok : Nat → Prop) (x : S35)  : k35.M w base ok x [.int .i64 x.f0, .int .i64 x.f1, .int .i64 x.f2, .int .i64 x.f3, .string x.f4, .int .i64 x.f5] := ⟨[.int .i64 x.f0], [.int .i64 x.f1, .int .i64 x.f2, .int .i64 x.f3, .string x.f4, .int .i64 x.f5], rfl, rfl, ⟨[.int .i64 x.f1], [.int .i64 x.f2, .int .i64 x.f3, .string x.f4, .int .i64 x.f5], rfl, rfl, ⟨[.int .i64 x.f2], [.int .i64 x.f3, .string x.f4, .int .i64 x.f5], rfl, rfl, ⟨[.int .i64 x.f3], [.string x.f4, .int .i64 x.f5], rfl, rfl, ⟨[.string x.f4], [.int .i64 x.f5], rfl, rfl, rfl⟩⟩⟩⟩⟩
def rd_T35 (xs : List S35) (i : Int) : S35 := xs.getD i.toNat z35
theorem at_T35 {w : World} {A : Option Addr} {n : Nat} {xs : List S35} (h : Kd.C k35 w A n xs) (i : Int) (h0 : 0 ≤ i) (h1 : i < n) : ∃ ad , A = some ad ∧ w.cell? (ad.add (i.toNat * 6)) = some (.int .i64 (rd_T35 xs i).f0) ∧ w.cell? ⟨(ad.add (i.toNat * 6)).block, (ad.add (i.toNat * 6)).off + 1, none⟩ = some (.int .i64 (rd_T35 xs i).f1) ∧ w.cell? ⟨(ad.add (i.toNat * 6)).block, (ad.add (i.toNat * 6)).off + 2, none⟩ = some (.int .i64 (rd_T35 xs i).f2) ∧ w.cell? ⟨(ad.add (i.toNat * 6)).block, (ad.add (i.toNat * 6)).off + 3, none⟩ = some (.int .i64 (rd_T35 xs i).f3) ∧ w.cell? ⟨(ad.add (i.toNat * 6)).block, (ad.add (i.toNat * 6)).off + 4, none⟩ = some (.string (rd_T35 xs i).f4) ∧ w.cell? ⟨(ad.add (i.toNat * 6)).block, (ad.add (i.toNat * 6)).off + 5, none⟩ = some (.int .i64 (rd_T35 xs i).f5) := by
 obtain ⟨ad, c, e, _, hK, hc0⟩ := q0a h z35 i h0 h1
 have hc : ∀ j u, c[j]? = some u → w.cell? (ad.add (i.toNat * 6 + j)) = some u := hc0
 obtain rfl := k35_open hK
 exact ⟨ad, e, hc 0 _ rfl, by rw [← add_field _ _ 1 (by omega)]; exact hc 1 _ rfl, by rw [← add_field _ _ 2 (by omega)]; exact hc 2 _ rfl, by rw [← add_field _ _ 3 (by omega)]; exact hc 3 _ rfl, by rw [← add_field _ _ 4 (by omega)]; exact hc 4 _ rfl, by rw [← add_field _ _ 5 (by omega)]; exact hc 5 _ rfl⟩

def rd_L3 (xs : List (List S35)) (i : Int) : (List S35) := xs.getD i.toNat ([] : List S35)
theorem at_L3 {w : World} {A : Option Addr} {n : Nat} {xs : List (List S35)} (h : Kd.C (Kd.slice 35 k35) w A n xs) (i : Int) (h0 : 0 ≤ i) (h1 : i < n) : ∃ ad A0 c0, A = some ad ∧ w.cell? (ad.add i.toNat) = some (.slice A0 (rd_L3 xs i).length c0) ∧ (rd_L3 xs i).length ≤ c0 ∧ k35.C w A0 (rd_L3 xs i).length (rd_L3 xs i) := by
 obtain ⟨ad, c, e, _, hK, hc0⟩ := q0a h ([] : List S35) i h0 h1
 have hc : ∀ j u, c[j]? = some u → w.cell? (ad.add (i.toNat * 1 + j)) = some u := hc0
 obtain ⟨A0, c0, rfl, l0, g0⟩ := hK
 exact ⟨ad, A0, c0, e, by have hq := hc 0 _ rfl; rwa [Nat.mul_one, Nat.add_zero] at hq, l0, g0⟩

/-! #### struct type 39 -/
structure S39 where
 f0 : ByteArray
 f1 : Int
 f2 : Int
 f3 : Int
def z39 : S39 := ⟨(⟨#[]⟩ : ByteArray), (0 : Int), (0 : Int), (0 : Int)⟩
def k39 : Kd S39 := Kd.iso (Kd.pair Kd.string (Kd.pair (Kd.int .i64) (Kd.pair (Kd.int .i64) (Kd.int .i64)))) (fun x : S39 => (x.f0, x.f1, x.f2, x.f3))
theorem k39_open {w : World} {x : S39} {cs : List Value} (h : k39.K w x cs) : cs = [.string x.f0, .int .i64 x.f1, .int .i64 x.f2, .int .i64 x.f3] := by
 obtain ⟨_, _, rfl, rfl, ⟨_, _, rfl, rfl, ⟨_, _, rfl, rfl, rfl⟩⟩⟩ := h
 exact rfl
theorem k39_openM {w : World} {base : Nat} {ok : Nat → Prop} {x : S39} {cs : List Value} (h : k39.M w base ok x cs) : cs = [.string x.f0, .int .i64 x.f1, .int .i64 x.f2, .int .i64 x.f3] := by
 obtain ⟨_, _, rfl, rfl, ⟨_, _, rfl, rfl, ⟨_, _, rfl, rfl, rfl⟩⟩⟩ := h
 exact rfl
theorem k39_mk (w : World) (x : S39)  : k39.K w x [.string x.f0, .int .i64 x.f1, .int .i64 x.f2, .int .i64 x.f3] := ⟨[.string x.f0], [.int .i64 x.f1, .int .i64 x.f2, .int .i64 x.f3], rfl, rfl, ⟨[.int .i64 x.f1], [.int .i64 x.f2, .int .i64 x.f3], rfl, rfl, ⟨[.int .i64 x.f2], [.int .i64 x.f3], rfl, rfl, rfl⟩⟩⟩
theorem k39_mkM (w : World) (base : Nat) (ok : Nat → Prop) (x : S39)  : k39.M w base ok x [.string x.f0, .int .i64 x.f1, .int .i64 x.f2, .int .i64 x.f3] := ⟨[.string x.f0], [.int .i64 x.f1, .int .i64 x.f2, .int .i64 x.f3], rfl, rfl, ⟨[.int .i64 x.f1], [.int .i64 x.f2, .int .i64 x.f3], rfl, rfl, ⟨[.int .i64 x.f2], [.int .i64 x.f3], rfl, rfl, rfl⟩⟩⟩
def rd_T39 (xs : List S39) (i : Int) : S39 := xs.getD i.toNat z39
theorem at_T39 {w : World} {A : Option Addr} {n : Nat} {xs : List S39} (h : Kd.C k39 w A n xs) (i : Int) (h0 : 0 ≤ i) (h1 : i < n) : ∃ ad , A = some ad ∧ w.cell? (ad.add (i.toNat * 4)) = some (.string (rd_T39 xs i).f0) ∧ w.cell? ⟨(ad.add (i.toNat * 4)).block, (ad.add (i.toNat * 4)).off + 1, none⟩ = some (.int .i64 (rd_T39 xs i).f1) ∧ w.cell? ⟨(ad.add (i.toNat * 4)).block, (ad.add (i.toNat * 4)).off + 2, none⟩ = some (.int .i64 (rd_T39 xs i).f2) ∧ w.cell? ⟨(ad.add (i.toNat * 4)).block, (ad.add (i.toNat * 4)).off + 3, none⟩ = some (.int .i64 (rd_T39 xs i).f3) := by
 obtain ⟨ad, c, e, _, hK, hc0⟩ := q0a h z39 i h0 h1
 have hc : ∀ j u, c[j]? = some u → w.cell? (ad.add (i.toNat * 4 + j)) = some u := hc0
 obtain rfl := k39_open hK
 exact ⟨ad, e, hc 0 _ rfl, by rw [← add_field _ _ 1 (by omega)]; exact hc 1 _ rfl, by rw [← add_field _ _ 2 (by omega)]; exact hc 2 _ rfl, by rw [← add_field _ _ 3 (by omega)]; exact hc 3 _ rfl⟩

def rd_L5 (xs : List (List S39)) (i : Int) : (List S39) := xs.getD i.toNat ([] : List S39)
theorem at_L5 {w : World} {A : Option Addr} {n : Nat} {xs : List (List S39)} (h : Kd.C (Kd.slice 39 k39) w A n xs) (i : Int) (h0 : 0 ≤ i) (h1 : i < n) : ∃ ad A0 c0, A = some ad ∧ w.cell? (ad.add i.toNat) = some (.slice A0 (rd_L5 xs i).length c0) ∧ (rd_L5 xs i).length ≤ c0 ∧ k39.C w A0 (rd_L5 xs i).length (rd_L5 xs i) := by
 obtain ⟨ad, c, e, _, hK, hc0⟩ := q0a h ([] : List S39) i h0 h1
 have hc : ∀ j u, c[j]? = some u → w.cell? (ad.add (i.toNat * 1 + j)) = some u := hc0
 obtain ⟨A0, c0, rfl, l0, g0⟩ := hK
 exact ⟨ad, A0, c0, e, by have hq := hc 0 _ rfl; rwa [Nat.mul_one, Nat.add_zero] at hq, l0, g0⟩

def rd_L6 (xs : List (List ByteArray)) (i : Int) : (List ByteArray) := xs.getD i.toNat ([] : List ByteArray)
theorem at_L6 {w : World} {A : Option Addr} {n : Nat} {xs : List (List ByteArray)} (h : Kd.C (Kd.slice 9 Kd.string) w A n xs) (i : Int) (h0 : 0 ≤ i) (h1 : i < n) : ∃ ad A0 c0, A = some ad ∧ w.cell? (ad.add i.toNat) = some (.slice A0 (rd_L6 xs i).length c0) ∧ (rd_L6 xs i).length ≤ c0 ∧ Kd.string.C w A0 (rd_L6 xs i).length (rd_L6 xs i) := by
 obtain ⟨ad, c, e, _, hK, hc0⟩ := q0a h ([] : List ByteArray) i h0 h1
 have hc : ∀ j u, c[j]? = some u → w.cell? (ad.add (i.toNat * 1 + j)) = some u := hc0
 obtain ⟨A0, c0, rfl, l0, g0⟩ := hK
 exact ⟨ad, A0, c0, e, by have hq := hc 0 _ rfl; rwa [Nat.mul_one, Nat.add_zero] at hq, l0, g0⟩

def rd_L7 (xs : List (List Int)) (i : Int) : (List Int) := xs.getD i.toNat ([] : List Int)
theorem at_L7 {w : World} {A : Option Addr} {n : Nat} {xs : List (List Int)} (h : Kd.C (Kd.slice 3 (Kd.int .i64)) w A n xs) (i : Int) (h0 : 0 ≤ i) (h1 : i < n) : ∃ ad A0 c0, A = some ad ∧ w.cell? (ad.add i.toNat) = some (.slice A0 (rd_L7 xs i).length c0) ∧ (rd_L7 xs i).length ≤ c0 ∧ (Kd.int .i64).C w A0 (rd_L7 xs i).length (rd_L7 xs i) := by
 obtain ⟨ad, c, e, _, hK, hc0⟩ := q0a h ([] : List Int) i h0 h1
 have hc : ∀ j u, c[j]? = some u → w.cell? (ad.add (i.toNat * 1 + j)) = some u := hc0
 obtain ⟨A0, c0, rfl, l0, g0⟩ := hK
 exact ⟨ad, A0, c0, e, by have hq := hc 0 _ rfl; rwa [Nat.mul_one, Nat.add_zero] at hq, l0, g0⟩

/-! #### struct type 31 -/
structure S31 where
 f0 : (List S39)
 f1 : (List ByteArray)
 f2 : (List Int)
def z31 : S31 := ⟨([] : List S39), ([] : List ByteArray), ([] : List Int)⟩
def k31 : Kd S31 := Kd.iso (Kd.pair (Kd.slice 39 k39) (Kd.pair (Kd.slice 9 Kd.string) (Kd.slice 3 (Kd.int .i64)))) (fun x : S31 => (x.f0, x.f1, x.f2))
theorem k31_open {w : World} {x : S31} {cs : List Value} (h : k31.K w x cs) : ∃ A0 c0 A1 c1 A2 c2, cs = [.slice A0 x.f0.length c0, .slice A1 x.f1.length c1, .slice A2 x.f2.length c2] ∧ x.f0.length ≤ c0 ∧ k39.C w A0 x.f0.length x.f0 ∧ x.f1.length ≤ c1 ∧ Kd.string.C w A1 x.f1.length x.f1 ∧ x.f2.length ≤ c2 ∧ (Kd.int .i64).C w A2 x.f2.length x.f2 := by
 obtain ⟨_, _, rfl, ⟨A0, c0, rfl, l0, g0⟩, ⟨_, _, rfl, ⟨A1, c1, rfl, l1, g1⟩, ⟨A2, c2, rfl, l2, g2⟩⟩⟩ := h
 exact ⟨A0, c0, A1, c1, A2, c2, rfl, l0, g0, l1, g1, l2, g2⟩
theorem k31_openM {w : World} {base : Nat} {ok : Nat → Prop} {x : S31} {cs : List Value} (h : k31.M w base ok x cs) : ∃ v0 v1 v2, cs = [v0, v1, v2] ∧ k39.R 39 w base ok v0 x.f0 ∧ Kd.string.R 9 w base ok v1 x.f1 ∧ (Kd.int .i64).R 3 w base ok v2 x.f2 := by
 obtain ⟨_, _, rfl, ⟨v0, rfl, g0⟩, ⟨_, _, rfl, ⟨v1, rfl, g1⟩, ⟨v2, rfl, g2⟩⟩⟩ := h
 exact ⟨v0, v1, v2, rfl, g0, g1, g2⟩
theorem k31_mk (w : World) (x : S31) {A0 : Option Addr} {c0 : Nat} (l0 : x.f0.length ≤ c0) (g0 : k39.C w A0 x.f0.length x.f0) {A1 : Option Addr} {c1 : Nat} (l1 : x.f1.length ≤ c1) (g1 : Kd.string.C w A1 x.f1.length x.f1) {A2 : Option Addr} {c2 : Nat} (l2 : x.f2.length ≤ c2) (g2 : (Kd.int .i64).C w A2 x.f2.length x.f2) : k31.K w x [.slice A0 x.f0.length c0, .slice A1 x.f1.length c1, .slice A2 x.f2.length c2] := ⟨[.slice A0 x.f0.length c0], [.slice A1 x.f1.length c1, .slice A2 x.f2.length c2], rfl, ⟨A0, c0, rfl, l0, g0⟩, ⟨[.slice A1 x.f1.length c1], [.slice A2 x.f2.length c2], rfl, ⟨A1, c1, rfl, l1, g1⟩, ⟨A2, c2, rfl, l2, g2⟩⟩⟩
theorem k31_mkM (w : World) (base : Nat) (ok : Nat → Prop) (x : S31) {v0 : Value} (g0 : k39.R 39 w base ok v0 x.f0) {v1 : Value} (g1 : Kd.string.R 9 w base ok v1 x.f1) {v2 : Value} (g2 : (Kd.int .i64).R 3 w base ok v2 x.f2) : k31.M w base ok x [v0, v1, v2] := ⟨[v0], [v1, v2], rfl, ⟨v0, rfl, g0⟩, ⟨[v1], [v2], rfl, ⟨v1, rfl, g1⟩, ⟨v2, rfl, g2⟩⟩⟩
def rd_T31 (xs : List S31) (i : Int) : S31 := xs.getD i.toNat z31
theorem at_T31 {w : World} {A : Option Addr} {n : Nat} {xs : List S31} (h : Kd.C k31 w A n xs) (i : Int) (h0 : 0 ≤ i) (h1 : i < n) : ∃ ad A0 c0 A1 c1 A2 c2, A = some ad ∧ w.cell? (ad.add (i.toNat * 3)) = some (.slice A0 (rd_T31 xs i).f0.length c0) ∧ w.cell? ⟨(ad.add (i.toNat * 3)).block, (ad.add (i.toNat * 3)).off + 1, none⟩ = some (.slice A1 (rd_T31 xs i).f1.length c1) ∧ w.cell? ⟨(ad.add (i.toNat * 3)).block, (ad.add (i.toNat * 3)).off + 2, none⟩ = some (.slice A2 (rd_T31 xs i).f2.length c2) ∧ (rd_T31 xs i).f0.length ≤ c0 ∧ k39.C w A0 (rd_T31 xs i).f0.length (rd_T31 xs i).f0 ∧ (rd_T31 xs i).f1.length ≤ c1 ∧ Kd.string.C w A1 (rd_T31 xs i).f1.length (rd_T31 xs i).f1 ∧ (rd_T31 xs i).f2.length ≤ c2 ∧ (Kd.int .i64).C w A2 (rd_T31 xs i).f2.length (rd_T31 xs i).f2 := by
 obtain ⟨ad, c, e, _, hK, hc0⟩ := q0a h z31 i h0 h1
 have hc : ∀ j u, c[j]? = some u → w.cell? (ad.add (i.toNat * 3 + j)) = some u := hc0
 obtain ⟨A0, c0, A1, c1, A2, c2, rfl, l0, g0, l1, g1, l2, g2⟩ := k31_open hK
 exact ⟨ad, A0, c0, A1, c1, A2, c2, e, hc 0 _ rfl, by rw [← add_field _ _ 1 (by omega)]; exact hc 1 _ rfl, by rw [← add_field _ _ 2 (by omega)]; exact hc 2 _ rfl, l0, g0, l1, g1, l2, g2⟩

/-! #### struct type 59 -/
structure S59 where
 f0 : Int
 f1 : Int
 f2 : Int
 f3 : Int
 f4 : ByteArray
 f5 : Int
def z59 : S59 := ⟨(0 : Int), (0 : Int), (0 : Int), (0 : Int), (⟨#[]⟩ : ByteArray), (0 : Int)⟩
def k59 : Kd S59 := Kd.iso (Kd.pair (Kd.int .i64) (Kd.pair (Kd.int .i64) (Kd.pair (Kd.int .i64) (Kd.pair (Kd.int .i64) (Kd.pair Kd.string (Kd.int .i64)))))) (fun x : S59 => (x.f0, x.f1, x.f2, x.f3, x.f4, x.f5))
theorem k59_open {w : World} {x : S59} {cs : List Value} (h : k59.K w x cs) : cs = [.int .i64 x.f0, .int .i64 x.f1, .int .i64 x.f2, .int .i64 x.f3, .string x.f4, .int .i64 x.f5] := by
 obtain ⟨_, _, rfl, rfl, ⟨_, _, rfl, rfl, ⟨_, _, rfl, rfl, ⟨_, _, rfl, rfl, ⟨_, _, rfl, rfl, rfl⟩⟩⟩⟩⟩ := h
 exact rfl
theorem k59_openM {w : World} {base : Nat} {ok : Nat → Prop} {x : S59} {cs : List Value} (h : k59.M w base ok x cs) : cs = [.int .i64 x.f0, .int .i64 x.f1, .int .i64 x.f2, .int .i64 x.f3, .string x.f4, .int .i64 x.f5] := by
 obtain ⟨_, _, rfl, rfl, ⟨_, _, rfl, rfl, ⟨_, _, rfl, rfl, ⟨_, _, rfl, rfl, ⟨_, _, rfl, rfl, rfl⟩⟩⟩⟩⟩ := h
 exact rfl
theorem k59_mk (w : World) (x : S59)  : k59.K w x [.int .i64 x.f0, .int .i64 x.f1, .int .i64 x.f2, .int .i64 x.f3, .string x.f4, .int .i64 x.f5] := ⟨[.int .i64 x.f0], [.int .i64 x.f1, .int .i64 x.f2, .int .i64 x.f3, .string x.f4, .int .i64 x.f5], rfl, rfl, ⟨[.int .i64 x.f1], [.int .i64 x.f2, .int .i64 x.f3, .string x.f4, .int .i64 x.f5], rfl, rfl, ⟨[.int .i64 x.f2], [.int .i64 x.f3, .string x.f4, .int .i64 x.f5], rfl, rfl, ⟨[.int .i64 x.f3], [.string x.f4, .int .i64 x.f5], rfl, rfl, ⟨[.string x.f4], [.int .i64 x.f5], rfl, rfl, rfl⟩⟩⟩⟩⟩
theorem k59_mkM (w : World) (base : Nat) (ok : Nat → Prop) (x : S59)  : k59.M w base ok x [.int .i64 x.f0, .int .i64 x.f1, .int .i64 x.f2, .int .i64 x.f3, .string x.f4, .int .i64 x.f5] := ⟨[.int .i64 x.f0], [.int .i64 x.f1, .int .i64 x.f2, .int .i64 x.f3, .string x.f4, .int .i64 x.f5], rfl, rfl, ⟨[.int .i64 x.f1], [.int .i64 x.f2, .int .i64 x.f3, .string x.f4, .int .i64 x.f5], rfl, rfl, ⟨[.int .i64 x.f2], [.int .i64 x.f3, .string x.f4, .int .i64 x.f5], rfl, rfl, ⟨[.int .i64 x.f3], [.string x.f4, .int .i64 x.f5], rfl, rfl, ⟨[.string x.f4], [.int .i64 x.f5], rfl, rfl, rfl⟩⟩⟩⟩⟩
def rd_T59 (xs : List S59) (i : Int) : S59 := xs.getD i.toNat z59
theorem at_T59 {w : World} {A : Option Addr} {n : Nat} {xs : List S59} (h : Kd.C k59 w A n xs) (i : Int) (h0 : 0 ≤ i) (h1 : i < n) : ∃ ad , A = some ad ∧ w.cell? (ad.add (i.toNat * 6)) = some (.int .i64 (rd_T59 xs i).f0) ∧ w.cell? ⟨(ad.add (i.toNat * 6)).block, (ad.add (i.toNat * 6)).off + 1, none⟩ = some (.int .i64 (rd_T59 xs i).f1) ∧ w.cell? ⟨(ad.add (i.toNat * 6)).block, (ad.add (i.toNat * 6)).off + 2, none⟩ = some (.int .i64 (rd_T59 xs i).f2) ∧ w.cell? ⟨(ad.add (i.toNat * 6)).block, (ad.add (i.toNat * 6)).off + 3, none⟩ = some (.int .i64 (rd_T59 xs i).f3) ∧ w.cell? ⟨(ad.add (i.toNat * 6)).block, (ad.add (i.toNat * 6)).off + 4, none⟩ = some (.string (rd_T59 xs i).f4) ∧ w.cell? ⟨(ad.add (i.toNat * 6)).block, (ad.add (i.toNat * 6)).off + 5, none⟩ = some (.int .i64 (rd_T59 xs i).f5) := by
 obtain ⟨ad, c, e, _, hK, hc0⟩ := q0a h z59 i h0 h1
 have hc : ∀ j u, c[j]? = some u → w.cell? (ad.add (i.toNat * 6 + j)) = some u := hc0
 obtain rfl := k59_open hK
 exact ⟨ad, e, hc 0 _ rfl, by rw [← add_field _ _ 1 (by omega)]; exact hc 1 _ rfl, by rw [← add_field _ _ 2 (by omega)]; exact hc 2 _ rfl, by rw [← add_field _ _ 3 (by omega)]; exact hc 3 _ rfl, by rw [← add_field _ _ 4 (by omega)]; exact hc 4 _ rfl, by rw [← add_field _ _ 5 (by omega)]; exact hc 5 _ rfl⟩

def rd_L11 (xs : List (List S59)) (i : Int) : (List S59) := xs.getD i.toNat ([] : List S59)
theorem at_L11 {w : World} {A : Option Addr} {n : Nat} {xs : List (List S59)} (h : Kd.C (Kd.slice 59 k59) w A n xs) (i : Int) (h0 : 0 ≤ i) (h1 : i < n) : ∃ ad A0 c0, A = some ad ∧ w.cell? (ad.add i.toNat) = some (.slice A0 (rd_L11 xs i).length c0) ∧ (rd_L11 xs i).length ≤ c0 ∧ k59.C w A0 (rd_L11 xs i).length (rd_L11 xs i) := by
 obtain ⟨ad, c, e, _, hK, hc0⟩ := q0a h ([] : List S59) i h0 h1
 have hc : ∀ j u, c[j]? = some u → w.cell? (ad.add (i.toNat * 1 + j)) = some u := hc0
 obtain ⟨A0, c0, rfl, l0, g0⟩ := hK
 exact ⟨ad, A0, c0, e, by have hq := hc 0 _ rfl; rwa [Nat.mul_one, Nat.add_zero] at hq, l0, g0⟩

-- aliases
theorem zO {p : Prop} [Decidable p] (h : decide p = true := by first | (with_reducible assumption) | assumption) : p := of_decide_eq_true h
abbrev za := @World.block_lt_of_cell?
abbrev zb := @Aside0.mk
abbrev zc := @pw_below_drewN
abbrev zd := @blk_frozen
abbrev ze := @below_drew1
abbrev zf := @below_alloc
abbrev zg := @below_set
abbrev zh := @blk_drewN
abbrev zi := @blk_alloc
abbrev zj := @Kd.R_alloc
abbrev zk := @Kd.R_drewN
abbrev zl := @Kd.R_drew
abbrev zm := @blk_drew
abbrev zn := @Kd.R_far
abbrev zo := @Kd.R_below
abbrev zp := @Kd.R_mono
abbrev zq := @below_size
abbrev zr := @below_step
abbrev zs := @Kd.R_types
abbrev zt := @blk_below
abbrev zu := @Kd.C_alloc
abbrev zv := @Kd.C_drewN
abbrev zw := @Kd.C_drew
abbrev zx := @blk_far
abbrev zy := @Kd.R_slice
abbrev zz := @blk_put
abbrev zaa := @blk_lt
abbrev zab := @Kd.C_below
abbrev zac := @Kd.R_typed
abbrev zad := @Kd.R_apart'
abbrev zae := @Kd.R_ne
abbrev zaf := @Kd.R_elem
abbrev zag := @Kd.R_keptB
abbrev zah := @Kd.R_lower
abbrev zai := @Kept.of_grown
abbrev zaj := @Kd.R_seg
abbrev zak := @Kd.R_elder'
abbrev zal := @Kd.R_tight
abbrev zam := @Kd.R_nil
abbrev zan := @Kd.at_string
abbrev zao := @Kd.R_reok
abbrev zap := @Kd.R_base
abbrev zaq := @Kd.R_new'
abbrev zar := @blk_grown
abbrev zas := @Kd.R_form
abbrev zat := @blk_kept
abbrev zau := @Kd.R_lt
abbrev zav := @Kd.R_over'
abbrev zaw := @Kd.N_nil
abbrev zax := @Kd.V_nil
abbrev zay := @Kd.Q_nil
abbrev zaz := @Kd.S_nil
abbrev zba := @Kd.at_int
abbrev zbb := @Kd.R_append
theorem zG54 {p : Prop} (h : p := by repeat (first | (with_reducible first | exact HB.out | apply zf | apply zc | apply ze | refine zg ?_ GE277.out | refine zg ?_ GE291.out) | exact HB.out)) : p := h
theorem zG55 {p : Prop} (h : p := by (try simp only [List.map_toArray, List.map_cons, List.map_nil]); first | done | rfl | (simp only [List.length_drop, List.length_take]; rfl)) : p := h
theorem zG56 {p : Prop} (h : p := by repeat (first | (with_reducible first | exact HB.out | apply zf | apply zc | apply ze | refine zg ?_ GE277.out) | exact HB.out)) : p := h
theorem zG57 {p : Prop} (h : p := by repeat (first | (with_reducible first | exact HB.out | apply zf | apply zc | apply ze | refine zg ?_ GE216.out) | exact HB.out)) : p := h
theorem zG58 {p : Prop} (h : p := by repeat (first | (with_reducible first | exact HB.out | apply zf | apply zc | apply ze | refine zg ?_ GE221.out) | exact HB.out)) : p := h
theorem zG59 {p : Prop} (h : p := by repeat (first | (with_reducible first | exact HB.out | apply zf | apply zc | apply ze | refine zg ?_ GE207.out) | exact HB.out)) : p := h
theorem zG60 {p : Prop} (h : p := by repeat (first | (with_reducible first | exact HK.out | apply Kept.alloc | apply Kept.drewN | apply Kept.drew) | exact HK.out)) : p := h
theorem zG61 {p : Prop} (h : p := by repeat (first | (with_reducible first | exact HB.out | apply zf | apply zc | apply ze) | exact HB.out)) : p := h
theorem zG62 {p : Prop} (h : p := by (with_reducible repeat (first | refine zh ?_ _ | refine zm ?_ | refine zi ?_ _)); exact BK277.out) : p := h
theorem zG63 {p : Prop} (h : p := by (with_reducible repeat (first | refine zh ?_ _ | refine zm ?_ | refine zi ?_ _)); exact BK291.out) : p := h
theorem zG64 {p : Prop} (h : p := by (with_reducible repeat (first | refine zh ?_ _ | refine zm ?_ | refine zi ?_ _)); exact BK160.out) : p := h
theorem zG65 {p : Prop} (h : p := by (with_reducible repeat (first | refine zh ?_ _ | refine zm ?_ | refine zi ?_ _)); exact BK216.out) : p := h
theorem zG66 {p : Prop} (h : p := by (with_reducible repeat (first | refine zh ?_ _ | refine zm ?_ | refine zi ?_ _)); exact BK221.out) : p := h
theorem zG67 {p : Prop} (h : p := by (with_reducible repeat (first | refine zh ?_ _ | refine zm ?_ | refine zi ?_ _)); exact BK207.out) : p := h
theorem zG68 {p : Prop} (h : p := by (with_reducible repeat (first | apply zj | apply zk | apply zl)); exact HO_278000.out) : p := h
theorem zG69 {p : Prop} (h : p := by (with_reducible repeat (first | apply zj | apply zk | apply zl)); exact HO_278001.out) : p := h
theorem zG70 {p : Prop} (h : p := by (with_reducible repeat (first | apply zj | apply zk | apply zl)); exact HO_278002.out) : p := h
theorem zG71 {p : Prop} (h : p := by (with_reducible repeat (first | apply zj | apply zk | apply zl)); exact HO_292000.out) : p := h
theorem zG72 {p : Prop} (h : p := by (with_reducible repeat (first | apply zj | apply zk | apply zl)); exact HO_292001.out) : p := h
theorem zG73 {p : Prop} (h : p := by (with_reducible repeat (first | apply zj | apply zk | apply zl)); exact HO_292002.out) : p := h
theorem zG74 {p : Prop} (h : p := by first | rfl | (simp; done) | (simp [*]; done)) : p := h
theorem zG75 {p : Prop} (h : p := by kernel_rfl) : p := h
theorem zG76 {p : Prop} (h : p := by decide) : p := h
-- pressed
abbrev zA_ := @And.intro
-- pressed twice
theorem zAi {a b c : Prop} (h : a → b → c) : a ∧ b → c := fun x => h x.1 x.2
theorem zP {P : Program} {ops : Array Oper} {Q : Exit → Act → World → Prop} {md : Region.Mode} {S : World → Prop} {ds : List Nat} {T : Bool × List (List Nat × List Nat)} {oi : Oper} {v : Value} {fuel : Nat} {l : Array Bool} {a a' : Act} {w : World} (i : Nat) (N : Tmp) (l' : Array Bool) (hT : Aside0 (rtab md ops = T)) (h : wpAnyLast P md ops Q S ds fuel l' a' w) (hi : ops[i]? = some oi := by rfl) (hN : oi.dst = some N := by rfl) (hc : anyT T l.toList l'.toList i = true := by kernel_rfl) (hQ : ∀ c a w, Q (.panic c) (a.put oi.dst v) w → Q (.panic c) a w := by exact fun _ _ _ h => h) (hw : Region.wanted oi (yielded ops a.tmps) = true := by rfl) (hy : ∀ w, (execOp a.eval oi).run P w = .ok (.value v) w := by intro w'; go_simp; with_reducible rfl) (ha : a.put (some N) v = a' := by simp only [Act.put, List.setIfInBounds_toArray, List.set_cons_zero, List.set_cons_succ, i64_w, i32_w]; rfl) : wpAnyLast P md ops Q S ds (fuel + 1) l a w := pure_ l' hi hN (any_of hT.out hc) hQ (Or.inl ⟨hw, hy⟩) ha h
theorem zQ {P : Program} {ops : Array Oper} {Q : Exit → Act → World → Prop} {md : Region.Mode} {S : World → Prop} {ds : List Nat} {T : Bool × List (List Nat × List Nat)} {oi : Oper} {v : Value} {fuel : Nat} {l : Array Bool} {a a' : Act} {w : World} {B : List Nat} (i : Nat) (N : Tmp) (l' : Array Bool) (hT : Aside0 (rtab md ops = T)) (hW : Aside0 (waitsOk T.2 B = true)) (hS : S w) (h : wpAnyLast P md ops Q S ds fuel l' a' w) (hi : ops[i]? = some oi := by rfl) (hN : oi.dst = some N := by rfl) (hc : takeW T B ds l.toList l'.toList i = true := by kernel_rfl) (hQ : ∀ c a w, Q (.panic c) (a.put oi.dst v) w → Q (.panic c) a w := by exact fun _ _ _ h => h) (hw : Region.wanted oi (yielded ops a.tmps) = true := by rfl) (hy : ∀ w, S w → (execOp a.eval oi).run P w = .ok (.value v) w := by intro w'; (repeat (refine zAi ?_; intro _)); intro _; go_simp; with_reducible rfl) (ha : a.put (some N) v = a' := by simp only [Act.put, List.setIfInBounds_toArray, List.set_cons_zero, List.set_cons_succ, i64_w, i32_w]; rfl) : wpAnyLast P md ops Q S ds (fuel + 1) l a w := take_ l' hi hN (take_ofW hT.out hW.out hc) hQ (Or.inl ⟨hw, hy⟩) hS ha h
theorem zU {P : Program} {ops : Array Oper} {Q : Exit → Act → World → Prop} {md : Region.Mode} {S : World → Prop} {ds : List Nat} {T : Bool × List (List Nat × List Nat)} {oi : Oper} {fuel : Nat} {l : Array Bool} {a a' : Act} {w : World} (i : Nat) (N : Tmp) (l' : Array Bool) (hT : Aside0 (rtab md ops = T)) (h : wpAnyLast P md ops Q S ds fuel l' a' w) (hi : ops[i]? = some oi := by rfl) (hN : oi.dst = some N := by rfl) (hc : anyT T l.toList l'.toList i = true := by kernel_rfl) (hQ : ∀ c a w, Q (.panic c) (a.put oi.dst undef) w → Q (.panic c) a w := by exact fun _ _ _ h => h) (hw : Region.wanted oi (yielded ops a.tmps) = false := by rfl) (ha : a.put (some N) undef = a' := by simp only [Act.put, List.setIfInBounds_toArray, List.set_cons_zero, List.set_cons_succ, i64_w, i32_w]; rfl) : wpAnyLast P md ops Q S ds (fuel + 1) l a w := pure_ l' hi hN (any_of hT.out hc) hQ (Or.inr ⟨hw, rfl⟩) ha h
def zM (n m : Nat) : Array Bool := ⟨(List.range n).map (fun i => Nat.testBit m i)⟩
theorem zB1 {w : World} {g : Nat} {t : TypeId} {v0 : Value} (h : w.heap[g]? = some (.cells #[v0] t (0, 0))) : w.cell? ⟨g, 0, none⟩ = some v0 ∧ w.frozen? ⟨g, 0, none⟩ = false := ⟨(blk_cell h 0).trans rfl, blk_frozen h 0⟩
theorem zB4 {w : World} {g : Nat} {t : TypeId} {v0 v1 v2 v3 : Value} (h : w.heap[g]? = some (.cells #[v0, v1, v2, v3] t (0, 0))) : w.cell? ⟨g, 0, none⟩ = some v0 ∧ w.cell? ⟨g, 1, none⟩ = some v1 ∧ w.cell? ⟨g, 2, none⟩ = some v2 ∧ w.cell? ⟨g, 3, none⟩ = some v3 ∧ w.frozen? ⟨g, 0, none⟩ = false ∧ w.frozen? ⟨g, 1, none⟩ = false ∧ w.frozen? ⟨g, 2, none⟩ = false ∧ w.frozen? ⟨g, 3, none⟩ = false := ⟨(blk_cell h 0).trans rfl, (blk_cell h 1).trans rfl, (blk_cell h 2).trans rfl, (blk_cell h 3).trans rfl, blk_frozen h 0, blk_frozen h 1, blk_frozen h 2, blk_frozen h 3⟩
theorem zN1 (p : Nat) {b s : Nat} (hg : b = s) (h : p ≤ s) : Aside0 (p ≤ b) := ⟨hg ▸ h⟩
theorem zN2 {a b s : Nat} (hg : b = s) (h : a < s) : Aside0 (a ≠ b) ∧ Aside0 (b ≠ a) := ⟨⟨by subst hg; exact Nat.ne_of_lt h⟩, ⟨by subst hg; exact Nat.ne_of_gt h⟩⟩
theorem zN3 {a b s : Nat} {c : Prop} (hg : b = s) (h : a < s) (r : c) : Aside0 (a ≠ b) ∧ Aside0 (b ≠ a) ∧ c := ⟨(zN2 hg h).1, (zN2 hg h).2, r⟩
theorem zD2 {p0 p1 : Prop} (h0 : p0) (h1 : p1) : Aside0 p0 ∧ Aside0 p1 := ⟨⟨h0⟩, ⟨h1⟩⟩
theorem zD3 {p0 p1 p2 : Prop} (h0 : p0) (h1 : p1) (h2 : p2) : Aside0 p0 ∧ Aside0 p1 ∧ Aside0 p2 := ⟨⟨h0⟩, ⟨h1⟩, ⟨h2⟩⟩
theorem zD4 {p0 p1 p2 p3 : Prop} (h0 : p0) (h1 : p1) (h2 : p2) (h3 : p3) : Aside0 p0 ∧ Aside0 p1 ∧ Aside0 p2 ∧ Aside0 p3 := ⟨⟨h0⟩, ⟨h1⟩, ⟨h2⟩, ⟨h3⟩⟩
theorem zD5 {p0 p1 p2 p3 p4 : Prop} (h0 : p0) (h1 : p1) (h2 : p2) (h3 : p3) (h4 : p4) : Aside0 p0 ∧ Aside0 p1 ∧ Aside0 p2 ∧ Aside0 p3 ∧ Aside0 p4 := ⟨⟨h0⟩, ⟨h1⟩, ⟨h2⟩, ⟨h3⟩, ⟨h4⟩⟩
theorem zD6 {p0 p1 p2 p3 p4 p5 : Prop} (h0 : p0) (h1 : p1) (h2 : p2) (h3 : p3) (h4 : p4) (h5 : p5) : Aside0 p0 ∧ Aside0 p1 ∧ Aside0 p2 ∧ Aside0 p3 ∧ Aside0 p4 ∧ Aside0 p5 := ⟨⟨h0⟩, ⟨h1⟩, ⟨h2⟩, ⟨h3⟩, ⟨h4⟩, ⟨h5⟩⟩
theorem zD7 {p0 p1 p2 p3 p4 p5 p6 : Prop} (h0 : p0) (h1 : p1) (h2 : p2) (h3 : p3) (h4 : p4) (h5 : p5) (h6 : p6) : Aside0 p0 ∧ Aside0 p1 ∧ Aside0 p2 ∧ Aside0 p3 ∧ Aside0 p4 ∧ Aside0 p5 ∧ Aside0 p6 := ⟨⟨h0⟩, ⟨h1⟩, ⟨h2⟩, ⟨h3⟩, ⟨h4⟩, ⟨h5⟩, ⟨h6⟩⟩
theorem zD13 {p0 p1 p2 p3 p4 p5 p6 p7 p8 p9 p10 p11 p12 : Prop} (h0 : p0) (h1 : p1) (h2 : p2) (h3 : p3) (h4 : p4) (h5 : p5) (h6 : p6) (h7 : p7) (h8 : p8) (h9 : p9) (h10 : p10) (h11 : p11) (h12 : p12) : Aside0 p0 ∧ Aside0 p1 ∧ Aside0 p2 ∧ Aside0 p3 ∧ Aside0 p4 ∧ Aside0 p5 ∧ Aside0 p6 ∧ Aside0 p7 ∧ Aside0 p8 ∧ Aside0 p9 ∧ Aside0 p10 ∧ Aside0 p11 ∧ Aside0 p12 := ⟨⟨h0⟩, ⟨h1⟩, ⟨h2⟩, ⟨h3⟩, ⟨h4⟩, ⟨h5⟩, ⟨h6⟩, ⟨h7⟩, ⟨h8⟩, ⟨h9⟩, ⟨h10⟩, ⟨h11⟩, ⟨h12⟩⟩
theorem zH0 {p : Prop} (h : p := by refine (Kd.R_reads' (e := 39) (base := w.heap.size) (ok := fun k_ => ((True ∧ some k_ ≠ (.slice Ao15 t267.length co15 : Value).ownBlock) ∧ some k_ ≠ (.slice Ao23 t281.length co23 : Value).ownBlock)) (n := t308.length) (c := co81) ?_).2.2; exact (by (with_reducible repeat (first | apply zj | apply zk | apply zl)); exact (zp (zn (p := ⟨gb318, 2, none⟩) (zn (p := ⟨gb318, 1, none⟩) (zn (p := ⟨gb318, 0, none⟩) (zs HO310.out BK318.out zG76) (fun _ hk => hk.2) (.slice Ao81 t308.length co81)) (fun _ hk => hk.2) (.slice Ao85 t311.length co85)) (fun _ hk => hk.2) (.slice Ao86 t314.length co86)) (fun _ h_ => h_.1)))) : p := h
theorem zH1 {p : Prop} (h : p := by refine (Kd.R_reads' (e := 3) (base := w.heap.size) (ok := fun k_ => ((True ∧ some k_ ≠ (.slice Ao18 t273.length co18 : Value).ownBlock) ∧ some k_ ≠ (.slice Ao27 t287.length co27 : Value).ownBlock)) (n := t314.length) (c := co86) ?_).2.2; exact (by (with_reducible repeat (first | apply zj | apply zk | apply zl)); exact (zp (zn (p := ⟨gb318, 2, none⟩) (zn (p := ⟨gb318, 1, none⟩) (zn (p := ⟨gb318, 0, none⟩) (zs HO316.out BK318.out zG76) (fun _ hk => hk.2) (.slice Ao81 t308.length co81)) (fun _ hk => hk.2) (.slice Ao85 t311.length co85)) (fun _ hk => hk.2) (.slice Ao86 t314.length co86)) (fun _ h_ => h_.1)))) : p := h
theorem zH2 {p : Prop} (h : p := by refine (Kd.R_reads' (e := 9) (base := w.heap.size) (ok := fun k_ => ((True ∧ some k_ ≠ (.slice Ao17 t270.length co17 : Value).ownBlock) ∧ some k_ ≠ (.slice Ao26 t284.length co26 : Value).ownBlock)) (n := t311.length) (c := co85) ?_).2.2; exact (by (with_reducible repeat (first | apply zj | apply zk | apply zl)); exact (zp (zn (p := ⟨gb318, 2, none⟩) (zn (p := ⟨gb318, 1, none⟩) (zn (p := ⟨gb318, 0, none⟩) (zs HO313.out BK318.out zG76) (fun _ hk => hk.2) (.slice Ao81 t308.length co81)) (fun _ hk => hk.2) (.slice Ao85 t311.length co85)) (fun _ hk => hk.2) (.slice Ao86 t314.length co86)) (fun _ h_ => h_.1)))) : p := h
theorem zH3 {p : Prop} (h : p := by refine (Kd.R_reads' (e := 39) (base := w.heap.size) (ok := fun k_ => (some k_ ≠ (.slice Ao23 t281.length co23 : Value).ownBlock ∧ some k_ ≠ (.slice Ao81 t308.length co81 : Value).ownBlock)) (n := t267.length) (c := co15) ?_).2.2; exact (by (with_reducible repeat (first | apply zj | apply zk | apply zl)); exact (zp (zn (p := ⟨gb318, 2, none⟩) (zn (p := ⟨gb318, 1, none⟩) (zn (p := ⟨gb318, 0, none⟩) (zs HO_278000.out BK318.out zG76) (fun _ hk => hk.2) (.slice Ao81 t308.length co81)) (fun _ hk => hk.2) (.slice Ao85 t311.length co85)) (fun _ hk => hk.2) (.slice Ao86 t314.length co86)) (fun _ h_ => h_.1)))) : p := h
theorem zH4 {p : Prop} (h : p := by exact ⟨_, _, _, by first | rfl | (simp [errW_none, errW_some] <;> rfl) | (simp [*, errW_none, errW_some] <;> rfl), by first | exact zam _ _ _ _ _ | exact zaw _ _ _ _ _ | exact zax _ _ _ _ _ | exact zay _ _ _ _ _ | exact zaz _ _ _ _ _, by first | exact zam _ _ _ _ _ | exact zaw _ _ _ _ _ | exact zax _ _ _ _ _ | exact zay _ _ _ _ _ | exact zaz _ _ _ _ _, by first | exact zam _ _ _ _ _ | exact zaw _ _ _ _ _ | exact zax _ _ _ _ _ | exact zay _ _ _ _ _ | exact zaz _ _ _ _ _, by repeat (first | (with_reducible first | exact HB.out | apply zf | apply zc | apply ze | refine zg ?_ GE160.out) | exact HB.out)⟩) : p := h
theorem zH5 {p : Prop} (h : p := by refine (Kd.R_reads' (e := 3) (base := w.heap.size) (ok := fun k_ => (some k_ ≠ (.slice Ao27 t287.length co27 : Value).ownBlock ∧ some k_ ≠ (.slice Ao86 t314.length co86 : Value).ownBlock)) (n := t273.length) (c := co18) ?_).2.2; exact (by (with_reducible repeat (first | apply zj | apply zk | apply zl)); exact (zp (zn (p := ⟨gb318, 2, none⟩) (zn (p := ⟨gb318, 1, none⟩) (zn (p := ⟨gb318, 0, none⟩) (zs HO_278002.out BK318.out zG76) (fun _ hk => hk.2) (.slice Ao81 t308.length co81)) (fun _ hk => hk.2) (.slice Ao85 t311.length co85)) (fun _ hk => hk.2) (.slice Ao86 t314.length co86)) (fun _ h_ => h_.1)))) : p := h
theorem zH6 {p : Prop} (h : p := by refine (Kd.R_reads' (e := 9) (base := w.heap.size) (ok := fun k_ => (some k_ ≠ (.slice Ao26 t284.length co26 : Value).ownBlock ∧ some k_ ≠ (.slice Ao85 t311.length co85 : Value).ownBlock)) (n := t270.length) (c := co17) ?_).2.2; exact (by (with_reducible repeat (first | apply zj | apply zk | apply zl)); exact (zp (zn (p := ⟨gb318, 2, none⟩) (zn (p := ⟨gb318, 1, none⟩) (zn (p := ⟨gb318, 0, none⟩) (zs HO_278001.out BK318.out zG76) (fun _ hk => hk.2) (.slice Ao81 t308.length co81)) (fun _ hk => hk.2) (.slice Ao85 t311.length co85)) (fun _ hk => hk.2) (.slice Ao86 t314.length co86)) (fun _ h_ => h_.1)))) : p := h
theorem zH7 {p : Prop} (h : p := by refine (Kd.R_reads' (e := 39) (base := w.heap.size) (ok := fun k_ => (True ∧ some k_ ≠ (.slice Ao15 t267.length co15 : Value).ownBlock)) (n := t281.length) (c := co23) ?_).2.2; exact (by (with_reducible repeat (first | apply zj | apply zk | apply zl)); exact (zp (zn (p := ⟨gb291, 2, none⟩) (zn (p := ⟨gb291, 1, none⟩) (zn (p := ⟨gb291, 0, none⟩) (zs HO283.out BK291.out zG76) (fun _ hk => hk.2) (.slice Ao23 t281.length co23)) (fun _ hk => hk.2) (.slice Ao26 t284.length co26)) (fun _ hk => hk.2) (.slice Ao27 t287.length co27)) (fun _ h_ => h_.1)))) : p := h
theorem zH8 {p : Prop} (h : p := by refine (Kd.R_reads' (e := 39) (base := w.heap.size) (ok := fun k_ => (True ∧ some k_ ≠ (.slice Ao23 t281.length co23 : Value).ownBlock)) (n := t267.length) (c := co15) ?_).2.2; exact (by (with_reducible repeat (first | apply zj | apply zk | apply zl)); exact (zp (zn (p := ⟨gb291, 2, none⟩) (zn (p := ⟨gb291, 1, none⟩) (zn (p := ⟨gb291, 0, none⟩) (zs HO269.out BK291.out zG76) (fun _ hk => hk.2) (.slice Ao23 t281.length co23)) (fun _ hk => hk.2) (.slice Ao26 t284.length co26)) (fun _ hk => hk.2) (.slice Ao27 t287.length co27)) (fun _ h_ => h_.1)))) : p := h
theorem zH9 {p : Prop} (h : p := by refine (Kd.R_reads' (e := 3) (base := w.heap.size) (ok := fun k_ => (True ∧ some k_ ≠ (.slice Ao18 t273.length co18 : Value).ownBlock)) (n := t287.length) (c := co27) ?_).2.2; exact (by (with_reducible repeat (first | apply zj | apply zk | apply zl)); exact (zp (zn (p := ⟨gb291, 2, none⟩) (zn (p := ⟨gb291, 1, none⟩) (zn (p := ⟨gb291, 0, none⟩) (zs HO289.out BK291.out zG76) (fun _ hk => hk.2) (.slice Ao23 t281.length co23)) (fun _ hk => hk.2) (.slice Ao26 t284.length co26)) (fun _ hk => hk.2) (.slice Ao27 t287.length co27)) (fun _ h_ => h_.1)))) : p := h
theorem zH10 {p : Prop} (h : p := by refine (Kd.R_reads' (e := 3) (base := w.heap.size) (ok := fun k_ => (True ∧ some k_ ≠ (.slice Ao27 t287.length co27 : Value).ownBlock)) (n := t273.length) (c := co18) ?_).2.2; exact (by (with_reducible repeat (first | apply zj | apply zk | apply zl)); exact (zp (zn (p := ⟨gb291, 2, none⟩) (zn (p := ⟨gb291, 1, none⟩) (zn (p := ⟨gb291, 0, none⟩) (zs HO275.out BK291.out zG76) (fun _ hk => hk.2) (.slice Ao23 t281.length co23)) (fun _ hk => hk.2) (.slice Ao26 t284.length co26)) (fun _ hk => hk.2) (.slice Ao27 t287.length co27)) (fun _ h_ => h_.1)))) : p := h
theorem zH11 {p : Prop} (h : p := by refine (Kd.R_reads' (e := 9) (base := w.heap.size) (ok := fun k_ => (True ∧ some k_ ≠ (.slice Ao17 t270.length co17 : Value).ownBlock)) (n := t284.length) (c := co26) ?_).2.2; exact (by (with_reducible repeat (first | apply zj | apply zk | apply zl)); exact (zp (zn (p := ⟨gb291, 2, none⟩) (zn (p := ⟨gb291, 1, none⟩) (zn (p := ⟨gb291, 0, none⟩) (zs HO286.out BK291.out zG76) (fun _ hk => hk.2) (.slice Ao23 t281.length co23)) (fun _ hk => hk.2) (.slice Ao26 t284.length co26)) (fun _ hk => hk.2) (.slice Ao27 t287.length co27)) (fun _ h_ => h_.1)))) : p := h
theorem zH12 {p : Prop} (h : p := by refine (Kd.R_reads' (e := 9) (base := w.heap.size) (ok := fun k_ => (True ∧ some k_ ≠ (.slice Ao26 t284.length co26 : Value).ownBlock)) (n := t270.length) (c := co17) ?_).2.2; exact (by (with_reducible repeat (first | apply zj | apply zk | apply zl)); exact (zp (zn (p := ⟨gb291, 2, none⟩) (zn (p := ⟨gb291, 1, none⟩) (zn (p := ⟨gb291, 0, none⟩) (zs HO272.out BK291.out zG76) (fun _ hk => hk.2) (.slice Ao23 t281.length co23)) (fun _ hk => hk.2) (.slice Ao26 t284.length co26)) (fun _ hk => hk.2) (.slice Ao27 t287.length co27)) (fun _ h_ => h_.1)))) : p := h
theorem zH13 {p : Prop} (h : p := by exact ⟨by first | rfl | (simp [errW_none, errW_some] <;> rfl) | (simp [*, errW_none, errW_some] <;> rfl), by (with_reducible repeat (first | apply zj | apply zk | apply zl)); exact HO_0.out, by repeat (first | (with_reducible first | exact HB.out | apply zf | apply zc | apply ze) | exact HB.out), by repeat (first | (with_reducible first | exact HK.out | apply Kept.alloc | apply Kept.drewN | apply Kept.drew) | exact HK.out)⟩) : p := h
theorem zH14 {p : Prop} (h : p := by repeat (first | exact (zab HR0_2.out (by repeat (first | (with_reducible first | exact HB.out | apply zf | apply zc | apply ze | refine zg ?_ GE216.out | refine zg ?_ GE217.out) | exact HB.out))) | (with_reducible refine zu ?_ _) | (with_reducible refine zv ?_ _) | (with_reducible refine zw ?_))) : p := h
theorem zH15 {p : Prop} (h : p := by repeat (first | exact (zab HR1_2.out (by repeat (first | (with_reducible first | exact HB.out | apply zf | apply zc | apply ze | refine zg ?_ GE216.out | refine zg ?_ GE217.out) | exact HB.out))) | (with_reducible refine zu ?_ _) | (with_reducible refine zv ?_ _) | (with_reducible refine zw ?_))) : p := h
theorem zH16 {p : Prop} (h : p := by exact ⟨by first | rfl | (simp [errW_none, errW_some] <;> rfl) | (simp [*, errW_none, errW_some] <;> rfl), by repeat (first | (with_reducible first | exact HB.out | apply zf | apply zc | apply ze | refine zg ?_ GE277.out | refine zg ?_ GE291.out | refine zg ?_ GE318.out) | exact HB.out)⟩) : p := h
theorem zH17 {p : Prop} (h : p := by (with_reducible repeat (first | refine zh ?_ _ | refine zm ?_ | refine zi ?_ _)); refine zx ?_ (by have h_ := zae HO_163000.out BK164.out zG76; intro e_; exact h_ (by rw [e_]; rfl)) _; (with_reducible repeat (first | refine zh ?_ _ | refine zm ?_ | refine zi ?_ _)); exact BK164.out) : p := h
theorem zH18 {p : Prop} (h : p := by (with_reducible repeat (first | refine zh ?_ _ | refine zm ?_ | refine zi ?_ _)); refine zx ?_ (by have h_ := zae HO_163000.out BK160.out zG76; intro e_; exact h_ (by rw [e_]; rfl)) _; (with_reducible repeat (first | refine zh ?_ _ | refine zm ?_ | refine zi ?_ _)); exact BK160.out) : p := h
theorem zH19 {p : Prop} (h : p := by (with_reducible repeat (first | refine zh ?_ _ | refine zm ?_ | refine zi ?_ _)); refine zx ?_ (by have h_ := zae HO_163000.out BK162.out zG76; intro e_; exact h_ (by rw [e_]; rfl)) _; (with_reducible repeat (first | refine zh ?_ _ | refine zm ?_ | refine zi ?_ _)); exact BK162.out) : p := h
theorem zH20 {p : Prop} (h : p := by exact ⟨by first | rfl | (simp [errW_none, errW_some] <;> rfl) | (simp [*, errW_none, errW_some] <;> rfl), by repeat (first | (with_reducible first | exact HB.out | apply zf | apply zc | apply ze | refine zg ?_ GE138.out | refine zg ?_ GE139.out) | exact HB.out)⟩) : p := h
theorem zH21 {p : Prop} (h : p := by exact ⟨by first | rfl | (simp [errW_none, errW_some] <;> rfl) | (simp [*, errW_none, errW_some] <;> rfl), by repeat (first | (with_reducible first | exact HB.out | apply zf | apply zc | apply ze | refine zg ?_ GE216.out | refine zg ?_ GE217.out) | exact HB.out)⟩) : p := h
theorem zH22 {p : Prop} (h : p := by exact ⟨by first | rfl | (simp [errW_none, errW_some] <;> rfl) | (simp [*, errW_none, errW_some] <;> rfl), by repeat (first | (with_reducible first | exact HB.out | apply zf | apply zc | apply ze | refine zg ?_ GE207.out | refine zg ?_ GE208.out) | exact HB.out)⟩) : p := h
theorem zH23 {p : Prop} (h : p := by exact ⟨by first | rfl | (simp [errW_none, errW_some] <;> rfl) | (simp [*, errW_none, errW_some] <;> rfl), by repeat (first | (with_reducible first | exact HB.out | apply zf | apply zc | apply ze | refine zg ?_ GE277.out | refine zg ?_ GE291.out) | exact HB.out)⟩) : p := h
theorem zH24 {p : Prop} (h : p := by exact ⟨by first | rfl | (simp [errW_none, errW_some] <;> rfl) | (simp [*, errW_none, errW_some] <;> rfl), by repeat (first | (with_reducible first | exact HB.out | apply zf | apply zc | apply ze | refine zg ?_ GE221.out | refine zg ?_ GE222.out) | exact HB.out)⟩) : p := h
theorem zH25 {p : Prop} (h : p := by exact ⟨by first | rfl | (simp [errW_none, errW_some] <;> rfl) | (simp [*, errW_none, errW_some] <;> rfl), by repeat (first | (with_reducible first | exact HB.out | apply zf | apply zc | apply ze | refine zg ?_ GE135.out) | exact HB.out)⟩) : p := h
theorem zH26 {p : Prop} (h : p := by exact ⟨by first | rfl | (simp [errW_none, errW_some] <;> rfl) | (simp [*, errW_none, errW_some] <;> rfl), by repeat (first | (with_reducible first | exact HB.out | apply zf | apply zc | apply ze | refine zg ?_ GE112.out) | exact HB.out)⟩) : p := h
theorem zH27 {p : Prop} (h : p := by exact ⟨by first | rfl | (simp [errW_none, errW_some] <;> rfl) | (simp [*, errW_none, errW_some] <;> rfl), by repeat (first | (with_reducible first | exact HB.out | apply zf | apply zc | apply ze | refine zg ?_ GE259.out) | exact HB.out)⟩) : p := h
theorem zH28 {p : Prop} (h : p := by exact ⟨by first | rfl | (simp [errW_none, errW_some] <;> rfl) | (simp [*, errW_none, errW_some] <;> rfl), by repeat (first | (with_reducible first | exact HB.out | apply zf | apply zc | apply ze | refine zg ?_ GE142.out) | exact HB.out)⟩) : p := h
theorem zH29 {p : Prop} (h : p := by exact ⟨by first | rfl | (simp [errW_none, errW_some] <;> rfl) | (simp [*, errW_none, errW_some] <;> rfl), by repeat (first | (with_reducible first | exact HB.out | apply zf | apply zc | apply ze | refine zg ?_ GE28.out) | exact HB.out)⟩) : p := h
theorem zH30 {p : Prop} (h : p := by (with_reducible repeat (first | refine zh ?_ _ | refine zm ?_ | refine zi ?_ _)); refine zx ?_ NB164_162.out _; (with_reducible repeat (first | refine zh ?_ _ | refine zm ?_ | refine zi ?_ _)); exact BK164.out) : p := h
theorem zH31 {p : Prop} (h : p := by (with_reducible repeat (first | refine zh ?_ _ | refine zm ?_ | refine zi ?_ _)); refine zx ?_ NB160_162.out _; (with_reducible repeat (first | refine zh ?_ _ | refine zm ?_ | refine zi ?_ _)); exact BK160.out) : p := h
theorem zH32 {p : Prop} (h : p := by exact ⟨by first | rfl | (simp [errW_none, errW_some] <;> rfl) | (simp [*, errW_none, errW_some] <;> rfl), by repeat (first | (with_reducible first | exact HB.out | apply zf | apply zc | apply ze) | exact HB.out)⟩) : p := h
theorem zH33 {p : Prop} (h : p := by repeat (first | (with_reducible first | exact HB.out | apply zf | apply zc | apply ze | refine zg ?_ GB61.out | refine zg ?_ GE160.out | refine zg ?_ GE162.out | refine zg ?_ GE164.out) | exact HB.out)) : p := h
theorem zH34 {p : Prop} (h : p := by repeat (first | (with_reducible first | exact HB.out | apply zf | apply zc | apply ze | refine zg ?_ GB90.out | refine zg ?_ GE160.out | refine zg ?_ GE162.out | refine zg ?_ GE164.out) | exact HB.out)) : p := h
theorem zH35 {p : Prop} (h : p := by exact (zq (by repeat (first | (with_reducible first | exact HB.out | apply zf | apply zc | apply ze | refine zg ?_ GE160.out | refine zg ?_ GE162.out | refine zg ?_ GE164.out) | exact HB.out)))) : p := h
theorem zH36 {p : Prop} (h : p := by exact (by repeat (first | (with_reducible first | exact HB.out | apply zf | apply zc | apply ze | refine zg ?_ GE160.out | refine zg ?_ GE162.out | refine zg ?_ GE164.out) | exact HB.out))) : p := h
theorem zH37 {p : Prop} (h : p := by repeat (first | (with_reducible first | exact HB.out | apply zf | apply zc | apply ze | refine zg ?_ GE160.out | refine zg ?_ GE162.out | refine zg ?_ GE164.out) | exact HB.out)) : p := h
theorem zH38 {p : Prop} (h : p := by repeat (first | (with_reducible first | exact HB.out | apply zf | apply zc | apply ze | refine zg ?_ GE277.out | refine zg ?_ GE291.out | refine zg ?_ GE318.out) | exact HB.out)) : p := h
theorem zH39 {p : Prop} (h : p := by exact ⟨by first | rfl | (simp; done) | (simp only [← hji25] <;> (first | rfl | simp)) | (simp [*]; done), by repeat (first | exact Drawn0.refl _ | apply Drawn0.step)⟩) : p := h
theorem zH40 {p : Prop} (h : p := by repeat (first | (with_reducible first | exact HB.out | apply zf | apply zc | apply ze | refine zg ?_ GE160.out | refine zg ?_ GE162.out) | exact HB.out)) : p := h
theorem zH41 {p : Prop} (h : p := by repeat (first | (with_reducible first | exact HB.out | apply zf | apply zc | apply ze | refine zg ?_ GE216.out | refine zg ?_ GE217.out) | exact HB.out)) : p := h
theorem zH42 {p : Prop} (h : p := by repeat (first | (with_reducible first | exact HB.out | apply zf | apply zc | apply ze | refine zg ?_ GE277.out | refine zg ?_ GE291.out) | exact HB.out)) : p := h
theorem zH43 {p : Prop} (h : p := by repeat (first | exact (Kd.R_reads' HO_278000.out).2.2 | (with_reducible refine zu ?_ _) | (with_reducible refine zv ?_ _) | (with_reducible refine zw ?_))) : p := h
theorem zH44 {p : Prop} (h : p := by repeat (first | exact (Kd.R_reads' HO_278001.out).2.2 | (with_reducible refine zu ?_ _) | (with_reducible refine zv ?_ _) | (with_reducible refine zw ?_))) : p := h
theorem zH45 {p : Prop} (h : p := by repeat (first | exact (Kd.R_reads' HO_278002.out).2.2 | (with_reducible refine zu ?_ _) | (with_reducible refine zv ?_ _) | (with_reducible refine zw ?_))) : p := h
theorem zH46 {p : Prop} (h : p := by repeat (first | exact (Kd.R_reads' HO_292000.out).2.2 | (with_reducible refine zu ?_ _) | (with_reducible refine zv ?_ _) | (with_reducible refine zw ?_))) : p := h
theorem zH47 {p : Prop} (h : p := by repeat (first | exact (Kd.R_reads' HO_292001.out).2.2 | (with_reducible refine zu ?_ _) | (with_reducible refine zv ?_ _) | (with_reducible refine zw ?_))) : p := h
theorem zH48 {p : Prop} (h : p := by repeat (first | exact (Kd.R_reads' HO_292002.out).2.2 | (with_reducible refine zu ?_ _) | (with_reducible refine zv ?_ _) | (with_reducible refine zw ?_))) : p := h
theorem zH49 {p : Prop} (h : p := by repeat (first | (with_reducible first | exact HB.out | apply zf | apply zc | apply ze | refine zg ?_ GE277.out | refine zg ?_ GE291.out) | exact HB.out)) : p := h
theorem zH50 {p : Prop} (h : p := by repeat (first | exact (Kd.R_reads' HO295.out).2.2 | (with_reducible refine zu ?_ _) | (with_reducible refine zv ?_ _) | (with_reducible refine zw ?_))) : p := h
theorem zH51 {p : Prop} (h : p := by repeat (first | exact (Kd.R_reads' HO_6.out).2.2 | (with_reducible refine zu ?_ _) | (with_reducible refine zv ?_ _) | (with_reducible refine zw ?_))) : p := h
theorem zH52 {p : Prop} (h : p := by repeat (first | exact (zab HR0_2.out HB.out) | (with_reducible refine zu ?_ _) | (with_reducible refine zv ?_ _) | (with_reducible refine zw ?_))) : p := h
theorem zH53 {p : Prop} (h : p := by repeat (first | exact (zab HR1_1.out HB.out) | (with_reducible refine zu ?_ _) | (with_reducible refine zv ?_ _) | (with_reducible refine zw ?_))) : p := h
theorem zH54 {p : Prop} (h : p := by repeat (first | exact (zab HR1_0.out HB.out) | (with_reducible refine zu ?_ _) | (with_reducible refine zv ?_ _) | (with_reducible refine zw ?_))) : p := h
theorem zH55 {p : Prop} (h : p := by repeat (first | exact (zab HR0_1.out HB.out) | (with_reducible refine zu ?_ _) | (with_reducible refine zv ?_ _) | (with_reducible refine zw ?_))) : p := h
theorem zH56 {p : Prop} (h : p := by repeat (first | exact (zab HR0_0.out HB.out) | (with_reducible refine zu ?_ _) | (with_reducible refine zv ?_ _) | (with_reducible refine zw ?_))) : p := h
theorem zH57 {p : Prop} (h : p := by repeat (first | exact (zab HR0.out HB.out) | (with_reducible refine zu ?_ _) | (with_reducible refine zv ?_ _) | (with_reducible refine zw ?_))) : p := h
theorem zH58 {p : Prop} (h : p := by repeat (first | (with_reducible first | exact HB.out | apply zf | apply zc | apply ze | refine zg ?_ GE160.out) | exact HB.out)) : p := h
theorem zH59 {p : Prop} (h : p := by repeat (first | exact HR0.out | (with_reducible refine zu ?_ _) | (with_reducible refine zv ?_ _) | (with_reducible refine zw ?_))) : p := h
theorem zH60 {p : Prop} (h : p := by repeat (first | (with_reducible first | exact HB.out | apply zf | apply zc | apply ze | refine zg ?_ GE259.out) | exact HB.out)) : p := h
theorem zH61 {p : Prop} (h : p := by repeat (first | (with_reducible first | exact HB.out | apply zf | apply zc | apply ze | refine zg ?_ GE142.out) | exact HB.out)) : p := h
theorem zH62 {p : Prop} (h : p := by repeat (first | (with_reducible first | exact HB.out | apply zf | apply zc | apply ze | refine zg ?_ GE112.out) | exact HB.out)) : p := h
theorem zH63 {p : Prop} (h : p := by repeat (first | (with_reducible first | exact HB.out | apply zf | apply zc | apply ze | refine zg ?_ GE28.out) | exact HB.out)) : p := h
theorem zH64 {p : Prop} (h : p := by repeat (first | (with_reducible first | exact HK.out | apply Kept.alloc | apply Kept.drewN | apply Kept.drew) | exact HK.out)) : p := h
theorem zH65 {p : Prop} (h : p := by repeat (first | (with_reducible first | exact HB.out | apply zf | apply zc | apply ze | refine zg ?_ GE244.out) | exact HB.out)) : p := h
theorem zH66 {p : Prop} (h : p := by first | exact zam _ _ _ _ _ | exact zaw _ _ _ _ _ | exact zax _ _ _ _ _ | exact zay _ _ _ _ _ | exact zaz _ _ _ _ _) : p := h
theorem zH67 {p : Prop} (h : p := by exact ⟨by first | rfl | (simp; done) | (simp [*]; done), by repeat (first | exact Drawn0.refl _ | apply Drawn0.step)⟩) : p := h
theorem zH68 {p : Prop} (h : p := by (with_reducible repeat (first | apply zj | apply zk | apply zl)); exact zp HO310.out (fun _ hk => ⟨hk.1.2, hk.2⟩)) : p := h
theorem zH69 {p : Prop} (h : p := by (with_reducible repeat (first | apply zj | apply zk | apply zl)); exact zp HO313.out (fun _ hk => ⟨hk.1.2, hk.2⟩)) : p := h
theorem zH70 {p : Prop} (h : p := by (with_reducible repeat (first | apply zj | apply zk | apply zl)); exact zp HO316.out (fun _ hk => ⟨hk.1.2, hk.2⟩)) : p := h
theorem zH71 {p : Prop} (h : p := by rw [show t301.length = t281.length from (Kd.R_reads' HO_292000.out).1.symm]; exact (Kd.R_reads' HO_292000.out).2.1) : p := h
theorem zH72 {p : Prop} (h : p := by rw [show t302.length = t284.length from (Kd.R_reads' HO_292001.out).1.symm]; exact (Kd.R_reads' HO_292001.out).2.1) : p := h
theorem zH73 {p : Prop} (h : p := by rw [show t303.length = t287.length from (Kd.R_reads' HO_292002.out).1.symm]; exact (Kd.R_reads' HO_292002.out).2.1) : p := h
theorem zH74 {p : Prop} (h : p := by (with_reducible repeat (first | apply zj | apply zk | apply zl)); exact zp HO280.out (fun _ hk => trivial)) : p := h
theorem zH75 {p : Prop} (h : p := by exact (by (with_reducible repeat (first | refine zh ?_ _ | refine zm ?_ | refine zi ?_ _)); exact BK28.out)) : p := h
theorem zH76 {p : Prop} (h : p := by (with_reducible repeat (first | apply zj | apply zk | apply zl)); exact zp HO269.out (fun _ hk => hk.2)) : p := h
theorem zH77 {p : Prop} (h : p := by (with_reducible repeat (first | apply zj | apply zk | apply zl)); exact zp HO272.out (fun _ hk => hk.2)) : p := h
theorem zH78 {p : Prop} (h : p := by (with_reducible repeat (first | apply zj | apply zk | apply zl)); exact zp HO275.out (fun _ hk => hk.2)) : p := h
theorem zH79 {p : Prop} (h : p := by (with_reducible repeat (first | apply zj | apply zk | apply zl)); exact zp HO283.out (fun _ hk => hk.2)) : p := h
theorem zH80 {p : Prop} (h : p := by (with_reducible repeat (first | apply zj | apply zk | apply zl)); exact zp HO286.out (fun _ hk => hk.2)) : p := h
theorem zH81 {p : Prop} (h : p := by (with_reducible repeat (first | apply zj | apply zk | apply zl)); exact zp HO289.out (fun _ hk => hk.2)) : p := h
theorem zH82 {p : Prop} (h : p := by repeat (first | (with_reducible first | exact HB.out | apply zf | apply zc | apply ze) | exact HB.out)) : p := h
theorem zH83 {p : Prop} (h : p := by (with_reducible repeat (first | refine zh ?_ _ | refine zm ?_ | refine zi ?_ _)); exact BK142.out) : p := h
theorem zH84 {p : Prop} (h : p := by (with_reducible repeat (first | refine zh ?_ _ | refine zm ?_ | refine zi ?_ _)); exact BK112.out) : p := h
theorem zH85 {p : Prop} (h : p := by (with_reducible repeat (first | refine zh ?_ _ | refine zm ?_ | refine zi ?_ _)); exact BK277.out) : p := h
theorem zH86 {p : Prop} (h : p := by (with_reducible repeat (first | refine zh ?_ _ | refine zm ?_ | refine zi ?_ _)); exact BK291.out) : p := h
theorem zH87 {p : Prop} (h : p := by first | rfl | (simp [errW_none, errW_some] <;> rfl) | (simp [*, errW_none, errW_some] <;> rfl)) : p := h
theorem zH88 {p : Prop} (h : p := by (with_reducible repeat (first | apply zj | apply zk | apply zl)); exact HO_278000.out) : p := h
theorem zH89 {p : Prop} (h : p := by (with_reducible repeat (first | apply zj | apply zk | apply zl)); exact HO_278001.out) : p := h
theorem zH90 {p : Prop} (h : p := by (with_reducible repeat (first | apply zj | apply zk | apply zl)); exact HO_278002.out) : p := h
theorem zH91 {p : Prop} (h : p := by (with_reducible repeat (first | apply zj | apply zk | apply zl)); exact HO_292000.out) : p := h
theorem zH92 {p : Prop} (h : p := by (with_reducible repeat (first | apply zj | apply zk | apply zl)); exact HO_292001.out) : p := h
theorem zH93 {p : Prop} (h : p := by (with_reducible repeat (first | apply zj | apply zk | apply zl)); exact HO_292002.out) : p := h
theorem zH94 {p : Prop} (h : p := by (with_reducible repeat (first | apply zj | apply zk | apply zl)); exact HO_0.out) : p := h
theorem zH95 {p : Prop} (h : p := by (with_reducible repeat (first | apply zj | apply zk | apply zl)); exact HO0.out) : p := h
theorem zH96 {p : Prop} (h : p := by have := HK1.out; have := HJ3.out; have := HK3.out; omega) : p := h
theorem zH97 {p : Prop} (h : p := by repeat (first | exact Drawn0.refl _ | apply Drawn0.step)) : p := h
theorem zH98 {p : Prop} (h : p := by have := HJ5.out; first | omega | exact Nat.le_refl _) : p := h
theorem zH99 {p : Prop} (h : p := by have := HK1.out; first | omega | exact Nat.le_refl _) : p := h
theorem zH100 {p : Prop} (h : p := by have := HK1.out; have := HJ4.out; omega) : p := h
theorem zH101 {p : Prop} (h : p := by first | (go_simp; done) | (go_simp; rfl)) : p := h
theorem zH102 {p : Prop} (h : p := by first | omega | exact Nat.le_refl _) : p := h
theorem zH103 {p : Prop} (h : p := by exact (Kd.R_reads' HO_292000.out).2.1) : p := h
theorem zH104 {p : Prop} (h : p := by exact (Kd.R_reads' HO_292001.out).2.1) : p := h
theorem zH105 {p : Prop} (h : p := by exact (Kd.R_reads' HO_292002.out).2.1) : p := h
theorem zH106 {p : Prop} (h : p := by have := HK1.out; omega) : p := h
theorem zK107 {p : Prop} (h : p := by (with_reducible repeat (first | refine zh ?_ _ | refine zm ?_ | refine zi ?_ _)); refine zz (cs := #[.int .i64 ((rd_T35 l0 x5_1).f0), .int .i64 ((rd_T35 l0 x5_1).f1), .int .i64 ((rd_T35 l0 x5_1).f2), .int .i64 ((rd_T35 l0 x5_1).f3), .string ((rd_T35 l0 x5_1).f4), .int .i64 0]) ?_ 5 _ rfl; (with_reducible repeat (first | refine zh ?_ _ | refine zm ?_ | refine zi ?_ _)); refine zz (cs := #[.int .i64 ((rd_T35 l0 x5_1).f0), .int .i64 ((rd_T35 l0 x5_1).f1), .int .i64 ((rd_T35 l0 x5_1).f2), .int .i64 ((rd_T35 l0 x5_1).f3), .string (⟨#[]⟩ : ByteArray), .int .i64 0]) ?_ 4 _ rfl; (with_reducible repeat (first | refine zh ?_ _ | refine zm ?_ | refine zi ?_ _)); refine zz (cs := #[.int .i64 ((rd_T35 l0 x5_1).f0), .int .i64 ((rd_T35 l0 x5_1).f1), .int .i64 ((rd_T35 l0 x5_1).f2), .int .i64 0, .string (⟨#[]⟩ : ByteArray), .int .i64 0]) ?_ 3 _ rfl; (with_reducible repeat (first | refine zh ?_ _ | refine zm ?_ | refine zi ?_ _)); refine zz (cs := #[.int .i64 ((rd_T35 l0 x5_1).f0), .int .i64 ((rd_T35 l0 x5_1).f1), .int .i64 0, .int .i64 0, .string (⟨#[]⟩ : ByteArray), .int .i64 0]) ?_ 2 _ rfl; (with_reducible repeat (first | refine zh ?_ _ | refine zm ?_ | refine zi ?_ _)); refine zz (cs := #[.int .i64 ((rd_T35 l0 x5_1).f0), .int .i64 0, .int .i64 0, .int .i64 0, .string (⟨#[]⟩ : ByteArray), .int .i64 0]) ?_ 1 _ rfl; (with_reducible repeat (first | refine zh ?_ _ | refine zm ?_ | refine zi ?_ _)); refine zz (cs := #[.int .i64 0, .int .i64 0, .int .i64 0, .int .i64 0, .string (⟨#[]⟩ : ByteArray), .int .i64 0]) ?_ 0 _ rfl; (with_reducible repeat (first | refine zh ?_ _ | refine zm ?_ | refine zi ?_ _)); exact BK164.out) : p := h
theorem zK108 {p : Prop} (h : p := by (with_reducible repeat (first | refine zh ?_ _ | refine zm ?_ | refine zi ?_ _)); refine zx ?_ NB160_164.out _; (with_reducible repeat (first | refine zh ?_ _ | refine zm ?_ | refine zi ?_ _)); refine zx ?_ NB160_164.out _; (with_reducible repeat (first | refine zh ?_ _ | refine zm ?_ | refine zi ?_ _)); refine zx ?_ NB160_164.out _; (with_reducible repeat (first | refine zh ?_ _ | refine zm ?_ | refine zi ?_ _)); refine zx ?_ NB160_164.out _; (with_reducible repeat (first | refine zh ?_ _ | refine zm ?_ | refine zi ?_ _)); refine zx ?_ NB160_164.out _; (with_reducible repeat (first | refine zh ?_ _ | refine zm ?_ | refine zi ?_ _)); refine zx ?_ NB160_164.out _; (with_reducible repeat (first | refine zh ?_ _ | refine zm ?_ | refine zi ?_ _)); exact BK160.out) : p := h
theorem zK109 {p : Prop} (h : p := by (with_reducible repeat (first | refine zh ?_ _ | refine zm ?_ | refine zi ?_ _)); refine zx ?_ NB162_164.out _; (with_reducible repeat (first | refine zh ?_ _ | refine zm ?_ | refine zi ?_ _)); refine zx ?_ NB162_164.out _; (with_reducible repeat (first | refine zh ?_ _ | refine zm ?_ | refine zi ?_ _)); refine zx ?_ NB162_164.out _; (with_reducible repeat (first | refine zh ?_ _ | refine zm ?_ | refine zi ?_ _)); refine zx ?_ NB162_164.out _; (with_reducible repeat (first | refine zh ?_ _ | refine zm ?_ | refine zi ?_ _)); refine zx ?_ NB162_164.out _; (with_reducible repeat (first | refine zh ?_ _ | refine zm ?_ | refine zi ?_ _)); refine zx ?_ NB162_164.out _; (with_reducible repeat (first | refine zh ?_ _ | refine zm ?_ | refine zi ?_ _)); exact BK162.out) : p := h
theorem zK110 {p : Prop} (h : p := by (with_reducible repeat (first | refine zh ?_ _ | refine zm ?_ | refine zi ?_ _)); refine zz (cs := #[.slice Ao23 t281.length co23, .slice Ao26 t284.length co26, .slice none 0 0]) ?_ 2 _ rfl; (with_reducible repeat (first | refine zh ?_ _ | refine zm ?_ | refine zi ?_ _)); refine zz (cs := #[.slice Ao23 t281.length co23, .slice none 0 0, .slice none 0 0]) ?_ 1 _ rfl; (with_reducible repeat (first | refine zh ?_ _ | refine zm ?_ | refine zi ?_ _)); refine zz (cs := #[.slice none 0 0, .slice none 0 0, .slice none 0 0]) ?_ 0 _ rfl; (with_reducible repeat (first | refine zh ?_ _ | refine zm ?_ | refine zi ?_ _)); exact BK291.out) : p := h
theorem zK111 {p : Prop} (h : p := by (with_reducible repeat (first | refine zh ?_ _ | refine zm ?_ | refine zi ?_ _)); refine zz (cs := #[.slice Ao81 t308.length co81, .slice Ao85 t311.length co85, .slice none 0 0]) ?_ 2 _ rfl; (with_reducible repeat (first | refine zh ?_ _ | refine zm ?_ | refine zi ?_ _)); refine zz (cs := #[.slice Ao81 t308.length co81, .slice none 0 0, .slice none 0 0]) ?_ 1 _ rfl; (with_reducible repeat (first | refine zh ?_ _ | refine zm ?_ | refine zi ?_ _)); refine zz (cs := #[.slice none 0 0, .slice none 0 0, .slice none 0 0]) ?_ 0 _ rfl; (with_reducible repeat (first | refine zh ?_ _ | refine zm ?_ | refine zi ?_ _)); exact BK318.out) : p := h
theorem zK112 {p : Prop} (h : p := by (with_reducible repeat (first | apply zj | apply zk | apply zl)); exact (zp (zn (p := ⟨gb164, 5, none⟩) (zn (p := ⟨gb164, 4, none⟩) (zn (p := ⟨gb164, 3, none⟩) (zn (p := ⟨gb164, 2, none⟩) (zn (p := ⟨gb164, 1, none⟩) (zn (p := ⟨gb164, 0, none⟩) (zs HO_163001.out BK164.out zG76) (fun _ hk => hk.2) (.int .i64 ((rd_T35 l0 x5_1).f0))) (fun _ hk => hk.2) (.int .i64 ((rd_T35 l0 x5_1).f1))) (fun _ hk => hk.2) (.int .i64 ((rd_T35 l0 x5_1).f2))) (fun _ hk => hk.2) (.int .i64 ((rd_T35 l0 x5_1).f3))) (fun _ hk => hk.2) (.string ((rd_T35 l0 x5_1).f4))) (fun _ hk => hk.2) (.int .i64 ((rd_T35 l0 x5_1).f5))) (fun _ h_ => h_.1))) : p := h
theorem zK113 {p : Prop} (h : p := by (with_reducible repeat (first | apply zj | apply zk | apply zl)); exact (zp (zn (p := ⟨gb164, 5, none⟩) (zn (p := ⟨gb164, 4, none⟩) (zn (p := ⟨gb164, 3, none⟩) (zn (p := ⟨gb164, 2, none⟩) (zn (p := ⟨gb164, 1, none⟩) (zn (p := ⟨gb164, 0, none⟩) (zs HO_163000.out BK164.out zG76) (fun _ hk => hk.2) (.int .i64 ((rd_T35 l0 x5_1).f0))) (fun _ hk => hk.2) (.int .i64 ((rd_T35 l0 x5_1).f1))) (fun _ hk => hk.2) (.int .i64 ((rd_T35 l0 x5_1).f2))) (fun _ hk => hk.2) (.int .i64 ((rd_T35 l0 x5_1).f3))) (fun _ hk => hk.2) (.string ((rd_T35 l0 x5_1).f4))) (fun _ hk => hk.2) (.int .i64 ((rd_T35 l0 x5_1).f5))) (fun _ h_ => h_.1))) : p := h
theorem zK114 {p : Prop} (h : p := by (with_reducible repeat (first | apply zj | apply zk | apply zl)); exact (zp (zn (p := ⟨gb164, 5, none⟩) (zn (p := ⟨gb164, 4, none⟩) (zn (p := ⟨gb164, 3, none⟩) (zn (p := ⟨gb164, 2, none⟩) (zn (p := ⟨gb164, 1, none⟩) (zn (p := ⟨gb164, 0, none⟩) (zs HO_163002.out BK164.out zG76) (fun _ hk => hk.2) (.int .i64 ((rd_T35 l0 x5_1).f0))) (fun _ hk => hk.2) (.int .i64 ((rd_T35 l0 x5_1).f1))) (fun _ hk => hk.2) (.int .i64 ((rd_T35 l0 x5_1).f2))) (fun _ hk => hk.2) (.int .i64 ((rd_T35 l0 x5_1).f3))) (fun _ hk => hk.2) (.string ((rd_T35 l0 x5_1).f4))) (fun _ hk => hk.2) (.int .i64 ((rd_T35 l0 x5_1).f5))) (fun _ h_ => h_.1))) : p := h
theorem zK115 {p : Prop} (h : p := by (with_reducible repeat (first | refine zh ?_ _ | refine zm ?_ | refine zi ?_ _)); refine zz (cs := #[.slice none 0 0, .slice none 0 0, .slice none 0 0]) ?_ 2 _ rfl; (with_reducible repeat (first | refine zh ?_ _ | refine zm ?_ | refine zi ?_ _)); refine zz (cs := #[.slice none 0 0, .slice none 0 0, .slice none 0 0]) ?_ 1 _ rfl; (with_reducible repeat (first | refine zh ?_ _ | refine zm ?_ | refine zi ?_ _)); refine zz (cs := #[.slice none 0 0, .slice none 0 0, .slice none 0 0]) ?_ 0 _ rfl; (with_reducible repeat (first | refine zh ?_ _ | refine zm ?_ | refine zi ?_ _)); exact BK160.out) : p := h
theorem zK116 {p : Prop} (h : p := by (with_reducible repeat (first | refine zh ?_ _ | refine zm ?_ | refine zi ?_ _)); refine zx ?_ NB277_291.out _; (with_reducible repeat (first | refine zh ?_ _ | refine zm ?_ | refine zi ?_ _)); refine zx ?_ NB277_291.out _; (with_reducible repeat (first | refine zh ?_ _ | refine zm ?_ | refine zi ?_ _)); refine zx ?_ NB277_291.out _; (with_reducible repeat (first | refine zh ?_ _ | refine zm ?_ | refine zi ?_ _)); exact BK277.out) : p := h
theorem zK117 {p : Prop} (h : p := by (with_reducible repeat (first | refine zh ?_ _ | refine zm ?_ | refine zi ?_ _)); refine zx ?_ NB277_318.out _; (with_reducible repeat (first | refine zh ?_ _ | refine zm ?_ | refine zi ?_ _)); refine zx ?_ NB277_318.out _; (with_reducible repeat (first | refine zh ?_ _ | refine zm ?_ | refine zi ?_ _)); refine zx ?_ NB277_318.out _; (with_reducible repeat (first | refine zh ?_ _ | refine zm ?_ | refine zi ?_ _)); exact BK277.out) : p := h
theorem zK118 {p : Prop} (h : p := by (with_reducible repeat (first | refine zh ?_ _ | refine zm ?_ | refine zi ?_ _)); refine zx ?_ NB291_318.out _; (with_reducible repeat (first | refine zh ?_ _ | refine zm ?_ | refine zi ?_ _)); refine zx ?_ NB291_318.out _; (with_reducible repeat (first | refine zh ?_ _ | refine zm ?_ | refine zi ?_ _)); refine zx ?_ NB291_318.out _; (with_reducible repeat (first | refine zh ?_ _ | refine zm ?_ | refine zi ?_ _)); exact BK291.out) : p := h
theorem zK119 {p : Prop} (h : p := by (try simp only [List.map_toArray, List.map_cons, List.map_nil]); first | done | (rw [show t301.length = t281.length from (Kd.R_reads' HO_292000.out).1.symm, show t302.length = t284.length from (Kd.R_reads' HO_292001.out).1.symm, show t303.length = t287.length from (Kd.R_reads' HO_292002.out).1.symm] <;> rfl) | rfl | (simp only [List.length_drop, List.length_take]; rfl)) : p := h
theorem zK120 {p : Prop} (h : p := by (with_reducible repeat (first | apply zj | apply zk | apply zl)); exact (zp (zn (p := ⟨gb318, 2, none⟩) (zn (p := ⟨gb318, 1, none⟩) (zn (p := ⟨gb318, 0, none⟩) (zs HO_278000.out BK318.out zG76) (fun _ hk => hk.2) (.slice Ao81 t308.length co81)) (fun _ hk => hk.2) (.slice Ao85 t311.length co85)) (fun _ hk => hk.2) (.slice Ao86 t314.length co86)) (fun _ h_ => h_.1))) : p := h
theorem zK121 {p : Prop} (h : p := by (with_reducible repeat (first | apply zj | apply zk | apply zl)); exact (zp (zn (p := ⟨gb318, 2, none⟩) (zn (p := ⟨gb318, 1, none⟩) (zn (p := ⟨gb318, 0, none⟩) (zs HO_278001.out BK318.out zG76) (fun _ hk => hk.2) (.slice Ao81 t308.length co81)) (fun _ hk => hk.2) (.slice Ao85 t311.length co85)) (fun _ hk => hk.2) (.slice Ao86 t314.length co86)) (fun _ h_ => h_.1))) : p := h
theorem zK122 {p : Prop} (h : p := by (with_reducible repeat (first | apply zj | apply zk | apply zl)); exact (zp (zn (p := ⟨gb318, 2, none⟩) (zn (p := ⟨gb318, 1, none⟩) (zn (p := ⟨gb318, 0, none⟩) (zs HO_278002.out BK318.out zG76) (fun _ hk => hk.2) (.slice Ao81 t308.length co81)) (fun _ hk => hk.2) (.slice Ao85 t311.length co85)) (fun _ hk => hk.2) (.slice Ao86 t314.length co86)) (fun _ h_ => h_.1))) : p := h
theorem zK123 {p : Prop} (h : p := by (with_reducible repeat (first | apply zj | apply zk | apply zl)); exact (zp (zn (p := ⟨gb318, 2, none⟩) (zn (p := ⟨gb318, 1, none⟩) (zn (p := ⟨gb318, 0, none⟩) (zs HO_292000.out BK318.out zG76) (fun _ hk => hk.2) (.slice Ao81 t308.length co81)) (fun _ hk => hk.2) (.slice Ao85 t311.length co85)) (fun _ hk => hk.2) (.slice Ao86 t314.length co86)) (fun _ h_ => h_.1))) : p := h
theorem zK124 {p : Prop} (h : p := by (with_reducible repeat (first | apply zj | apply zk | apply zl)); exact (zp (zn (p := ⟨gb318, 2, none⟩) (zn (p := ⟨gb318, 1, none⟩) (zn (p := ⟨gb318, 0, none⟩) (zs HO_292001.out BK318.out zG76) (fun _ hk => hk.2) (.slice Ao81 t308.length co81)) (fun _ hk => hk.2) (.slice Ao85 t311.length co85)) (fun _ hk => hk.2) (.slice Ao86 t314.length co86)) (fun _ h_ => h_.1))) : p := h
theorem zK125 {p : Prop} (h : p := by (with_reducible repeat (first | apply zj | apply zk | apply zl)); exact (zp (zn (p := ⟨gb318, 2, none⟩) (zn (p := ⟨gb318, 1, none⟩) (zn (p := ⟨gb318, 0, none⟩) (zs HO_292002.out BK318.out zG76) (fun _ hk => hk.2) (.slice Ao81 t308.length co81)) (fun _ hk => hk.2) (.slice Ao85 t311.length co85)) (fun _ hk => hk.2) (.slice Ao86 t314.length co86)) (fun _ h_ => h_.1))) : p := h
theorem zK126 {p : Prop} (h : p := by (with_reducible repeat (first | apply zj | apply zk | apply zl)); exact (zp (zn (p := ⟨gb277, 2, none⟩) (zn (p := ⟨gb277, 1, none⟩) (zn (p := ⟨gb277, 0, none⟩) (zs HO266.out BK277.out zG76) (fun _ hk => hk.2) (.slice Ao15 t267.length co15)) (fun _ hk => hk.2) (.slice Ao17 t270.length co17)) (fun _ hk => hk.2) (.slice Ao18 t273.length co18)) (fun _ h_ => h_.1))) : p := h
theorem zK127 {p : Prop} (h : p := by (with_reducible repeat (first | apply zj | apply zk | apply zl)); exact (zp (zn (p := ⟨gb291, 2, none⟩) (zn (p := ⟨gb291, 1, none⟩) (zn (p := ⟨gb291, 0, none⟩) (zs HO266.out BK291.out zG76) (fun _ hk => hk.2) (.slice Ao23 t281.length co23)) (fun _ hk => hk.2) (.slice Ao26 t284.length co26)) (fun _ hk => hk.2) (.slice Ao27 t287.length co27)) (fun _ h_ => h_.1))) : p := h
theorem zK128 {p : Prop} (h : p := by (with_reducible repeat (first | apply zj | apply zk | apply zl)); exact (zp (zn (p := ⟨gb291, 2, none⟩) (zn (p := ⟨gb291, 1, none⟩) (zn (p := ⟨gb291, 0, none⟩) (zs HO269.out BK291.out zG76) (fun _ hk => hk.2) (.slice Ao23 t281.length co23)) (fun _ hk => hk.2) (.slice Ao26 t284.length co26)) (fun _ hk => hk.2) (.slice Ao27 t287.length co27)) (fun _ h_ => h_.1))) : p := h
theorem zK129 {p : Prop} (h : p := by (with_reducible repeat (first | apply zj | apply zk | apply zl)); exact (zp (zn (p := ⟨gb291, 2, none⟩) (zn (p := ⟨gb291, 1, none⟩) (zn (p := ⟨gb291, 0, none⟩) (zs HO272.out BK291.out zG76) (fun _ hk => hk.2) (.slice Ao23 t281.length co23)) (fun _ hk => hk.2) (.slice Ao26 t284.length co26)) (fun _ hk => hk.2) (.slice Ao27 t287.length co27)) (fun _ h_ => h_.1))) : p := h
theorem zK130 {p : Prop} (h : p := by (with_reducible repeat (first | apply zj | apply zk | apply zl)); exact (zp (zn (p := ⟨gb291, 2, none⟩) (zn (p := ⟨gb291, 1, none⟩) (zn (p := ⟨gb291, 0, none⟩) (zs HO275.out BK291.out zG76) (fun _ hk => hk.2) (.slice Ao23 t281.length co23)) (fun _ hk => hk.2) (.slice Ao26 t284.length co26)) (fun _ hk => hk.2) (.slice Ao27 t287.length co27)) (fun _ h_ => h_.1))) : p := h
theorem zK131 {p : Prop} (h : p := by (with_reducible repeat (first | apply zj | apply zk | apply zl)); exact (zp (zn (p := ⟨gb291, 2, none⟩) (zn (p := ⟨gb291, 1, none⟩) (zn (p := ⟨gb291, 0, none⟩) (zs HO280.out BK291.out zG76) (fun _ hk => hk.2) (.slice Ao23 t281.length co23)) (fun _ hk => hk.2) (.slice Ao26 t284.length co26)) (fun _ hk => hk.2) (.slice Ao27 t287.length co27)) (fun _ h_ => h_.1))) : p := h
theorem zK132 {p : Prop} (h : p := by (with_reducible repeat (first | apply zj | apply zk | apply zl)); exact (zp (zn (p := ⟨gb291, 2, none⟩) (zn (p := ⟨gb291, 1, none⟩) (zn (p := ⟨gb291, 0, none⟩) (zs HO283.out BK291.out zG76) (fun _ hk => hk.2) (.slice Ao23 t281.length co23)) (fun _ hk => hk.2) (.slice Ao26 t284.length co26)) (fun _ hk => hk.2) (.slice Ao27 t287.length co27)) (fun _ h_ => h_.1))) : p := h
theorem zK133 {p : Prop} (h : p := by (with_reducible repeat (first | apply zj | apply zk | apply zl)); exact (zp (zn (p := ⟨gb291, 2, none⟩) (zn (p := ⟨gb291, 1, none⟩) (zn (p := ⟨gb291, 0, none⟩) (zs HO286.out BK291.out zG76) (fun _ hk => hk.2) (.slice Ao23 t281.length co23)) (fun _ hk => hk.2) (.slice Ao26 t284.length co26)) (fun _ hk => hk.2) (.slice Ao27 t287.length co27)) (fun _ h_ => h_.1))) : p := h
theorem zK134 {p : Prop} (h : p := by (with_reducible repeat (first | apply zj | apply zk | apply zl)); exact (zp (zn (p := ⟨gb291, 2, none⟩) (zn (p := ⟨gb291, 1, none⟩) (zn (p := ⟨gb291, 0, none⟩) (zs HO289.out BK291.out zG76) (fun _ hk => hk.2) (.slice Ao23 t281.length co23)) (fun _ hk => hk.2) (.slice Ao26 t284.length co26)) (fun _ hk => hk.2) (.slice Ao27 t287.length co27)) (fun _ h_ => h_.1))) : p := h
theorem zK135 {p : Prop} (h : p := by (with_reducible repeat (first | apply zj | apply zk | apply zl)); exact (zp (zn (p := ⟨gb318, 2, none⟩) (zn (p := ⟨gb318, 1, none⟩) (zn (p := ⟨gb318, 0, none⟩) (zs HO307.out BK318.out zG76) (fun _ hk => hk.2) (.slice Ao81 t308.length co81)) (fun _ hk => hk.2) (.slice Ao85 t311.length co85)) (fun _ hk => hk.2) (.slice Ao86 t314.length co86)) (fun _ h_ => h_.1))) : p := h
theorem zK136 {p : Prop} (h : p := by (with_reducible repeat (first | apply zj | apply zk | apply zl)); exact (zp (zn (p := ⟨gb318, 2, none⟩) (zn (p := ⟨gb318, 1, none⟩) (zn (p := ⟨gb318, 0, none⟩) (zs HO310.out BK318.out zG76) (fun _ hk => hk.2) (.slice Ao81 t308.length co81)) (fun _ hk => hk.2) (.slice Ao85 t311.length co85)) (fun _ hk => hk.2) (.slice Ao86 t314.length co86)) (fun _ h_ => h_.1))) : p := h
theorem zK137 {p : Prop} (h : p := by (with_reducible repeat (first | apply zj | apply zk | apply zl)); exact (zp (zn (p := ⟨gb318, 2, none⟩) (zn (p := ⟨gb318, 1, none⟩) (zn (p := ⟨gb318, 0, none⟩) (zs HO313.out BK318.out zG76) (fun _ hk => hk.2) (.slice Ao81 t308.length co81)) (fun _ hk => hk.2) (.slice Ao85 t311.length co85)) (fun _ hk => hk.2) (.slice Ao86 t314.length co86)) (fun _ h_ => h_.1))) : p := h
theorem zK138 {p : Prop} (h : p := by (with_reducible repeat (first | apply zj | apply zk | apply zl)); exact (zp (zn (p := ⟨gb318, 2, none⟩) (zn (p := ⟨gb318, 1, none⟩) (zn (p := ⟨gb318, 0, none⟩) (zs HO316.out BK318.out zG76) (fun _ hk => hk.2) (.slice Ao81 t308.length co81)) (fun _ hk => hk.2) (.slice Ao85 t311.length co85)) (fun _ hk => hk.2) (.slice Ao86 t314.length co86)) (fun _ h_ => h_.1))) : p := h
theorem zK139 {p : Prop} (h : p := by repeat (first | (with_reducible first | exact HB.out | apply zf | apply zc | apply ze | refine zg ?_ GE277.out | refine zg ?_ GE291.out | refine zg ?_ GE318.out) | exact HB.out)) : p := h
theorem zK140 {p : Prop} (h : p := by repeat (first | (with_reducible first | exact HK.out | apply Kept.alloc | apply Kept.drewN | apply Kept.drew | refine Kept.setCell ?_ (.inr GW244.out) _) | exact HK.out)) : p := h
theorem zK141 {p : Prop} (h : p := by repeat (first | (with_reducible first | exact HB.out | apply zf | apply zc | apply ze | refine zg ?_ GE160.out | refine zg ?_ GE162.out) | exact HB.out)) : p := h
theorem zK142 {p : Prop} (h : p := by repeat (first | (with_reducible first | exact HB.out | apply zf | apply zc | apply ze | refine zg ?_ GE216.out | refine zg ?_ GE217.out) | exact HB.out)) : p := h
theorem zK143 {p : Prop} (h : p := by repeat (first | (with_reducible first | exact HB.out | apply zf | apply zc | apply ze | refine zg ?_ GE121.out | refine zg ?_ GE122.out) | exact HB.out)) : p := h
theorem zK144 {p : Prop} (h : p := by repeat (first | (with_reducible first | exact HB.out | apply zf | apply zc | apply ze | refine zg ?_ GE193.out | refine zg ?_ GE194.out) | exact HB.out)) : p := h
theorem zK145 {p : Prop} (h : p := by repeat (first | (with_reducible first | exact HB.out | apply zf | apply zc | apply ze | refine zg ?_ GE160.out) | exact HB.out)) : p := h
theorem zK146 {p : Prop} (h : p := by repeat (first | (with_reducible first | exact HB.out | apply zf | apply zc | apply ze | refine zg ?_ GE138.out) | exact HB.out)) : p := h
theorem zK147 {p : Prop} (h : p := by repeat (first | (with_reducible first | exact HB.out | apply zf | apply zc | apply ze | refine zg ?_ GE121.out) | exact HB.out)) : p := h
theorem zK148 {p : Prop} (h : p := by repeat (first | (with_reducible first | exact HB.out | apply zf | apply zc | apply ze | refine zg ?_ GE193.out) | exact HB.out)) : p := h
theorem zK149 {p : Prop} (h : p := by repeat (first | (with_reducible first | exact HB.out | apply zf | apply zc | apply ze | refine zg ?_ GE259.out) | exact HB.out)) : p := h
theorem zK150 {p : Prop} (h : p := by repeat (first | (with_reducible first | exact HB.out | apply zf | apply zc | apply ze | refine zg ?_ GE28.out) | exact HB.out)) : p := h
theorem zK151 {p : Prop} (h : p := by repeat (first | (with_reducible first | exact HB.out | apply zf | apply zc | apply ze | refine zg ?_ GE1.out) | exact HB.out)) : p := h
theorem zK152 {p : Prop} (h : p := by (with_reducible repeat (first | refine zh ?_ _ | refine zm ?_ | refine zi ?_ _)); exact BK318.out) : p := h
theorem zK153 {p : Prop} (h : p := by (with_reducible repeat (first | refine zh ?_ _ | refine zm ?_ | refine zi ?_ _)); exact BK162.out) : p := h
theorem zK154 {p : Prop} (h : p := by (with_reducible repeat (first | refine zh ?_ _ | refine zm ?_ | refine zi ?_ _)); exact BK244.out) : p := h
theorem zK155 {p : Prop} (h : p := by (with_reducible repeat (first | refine zh ?_ _ | refine zm ?_ | refine zi ?_ _)); exact BK217.out) : p := h
theorem zK156 {p : Prop} (h : p := by (with_reducible repeat (first | refine zh ?_ _ | refine zm ?_ | refine zi ?_ _)); exact BK138.out) : p := h
theorem zK157 {p : Prop} (h : p := by (with_reducible repeat (first | refine zh ?_ _ | refine zm ?_ | refine zi ?_ _)); exact BK121.out) : p := h
theorem zK158 {p : Prop} (h : p := by (with_reducible repeat (first | refine zh ?_ _ | refine zm ?_ | refine zi ?_ _)); exact BK193.out) : p := h
theorem zK159 {p : Prop} (h : p := by (with_reducible repeat (first | refine zh ?_ _ | refine zm ?_ | refine zi ?_ _)); exact BK194.out) : p := h
theorem zK160 {p : Prop} (h : p := by (with_reducible repeat (first | refine zh ?_ _ | refine zm ?_ | refine zi ?_ _)); exact BK259.out) : p := h
theorem zK161 {p : Prop} (h : p := by (with_reducible repeat (first | refine zh ?_ _ | refine zm ?_ | refine zi ?_ _)); exact BK1.out) : p := h
theorem zK162 {p : Prop} (h : p := by (with_reducible repeat (first | apply zj | apply zk | apply zl)); exact HO_319000.out) : p := h
theorem zK163 {p : Prop} (h : p := by (with_reducible repeat (first | apply zj | apply zk | apply zl)); exact HO_319001.out) : p := h
theorem zK164 {p : Prop} (h : p := by (with_reducible repeat (first | apply zj | apply zk | apply zl)); exact HO_319002.out) : p := h
theorem zK165 {p : Prop} (h : p := by (with_reducible repeat (first | apply zj | apply zk | apply zl)); exact HO_163000.out) : p := h
theorem zK166 {p : Prop} (h : p := by (with_reducible repeat (first | apply zj | apply zk | apply zl)); exact HO_163001.out) : p := h
theorem zK167 {p : Prop} (h : p := by (with_reducible repeat (first | apply zj | apply zk | apply zl)); exact HO_163002.out) : p := h
theorem zK168 {p : Prop} (h : p := by (try simp only [List.map_toArray, List.map_cons, List.map_nil]); first | done | rfl) : p := h
theorem zK169 {p : Prop} (h : p := by (with_reducible repeat (first | apply zj | apply zk | apply zl)); exact HO266.out) : p := h
theorem zK170 {p : Prop} (h : p := by (with_reducible repeat (first | apply zj | apply zk | apply zl)); exact HO269.out) : p := h
theorem zK171 {p : Prop} (h : p := by (with_reducible repeat (first | apply zj | apply zk | apply zl)); exact HO272.out) : p := h
theorem zK172 {p : Prop} (h : p := by (with_reducible repeat (first | apply zj | apply zk | apply zl)); exact HO275.out) : p := h
theorem zK173 {p : Prop} (h : p := by (with_reducible repeat (first | apply zj | apply zk | apply zl)); exact HO295.out) : p := h
theorem zK174 {p : Prop} (h : p := by (with_reducible repeat (first | apply zj | apply zk | apply zl)); exact HO_6.out) : p := h
theorem zK175 {p : Prop} (h : p := by (with_reducible repeat (first | apply zj | apply zk | apply zl)); exact HO_0.out) : p := h
theorem zK176 {p : Prop} (h : p := by first | (go_simp; done) | (go_simp; rfl)) : p := h
end Go.Proofs.Ytoibmbkmpadmnaa.G
