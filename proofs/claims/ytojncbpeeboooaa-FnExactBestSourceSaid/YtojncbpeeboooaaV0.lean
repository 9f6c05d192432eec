-- squeezed
-- made by pp.py (wip/tools) out of the translation; Lean checks it
import Derived.Test.YtojncbpeeboooaaProg
import Derived.Below
import Derived.Deep.Draws
import Derived.Deep.AppendLies
import Derived.Maps.AppendAt
import Derived.OwnWalk
import Derived.Laws.BytesArg
import Derived.Laws.MakeOwn
import Derived.Laws.OwnMore
import Derived.Deep.OwnRows
import Derived.Tactics
import Derived.Lib.ConvBytes
import Derived.Laws.Slices
import Derived.WalkKit
import Derived.KernelRfl
import Derived.RowKit3
import Derived.Deep.LoopGhost
import Derived.Deep.QuietTactic
import Derived.BigQuiet
import Derived.WideLaws
import Derived.Deep.DeepCutAuto
import Derived.Deep.CutBlock
import Derived.Deep.RegionHeld3
import Derived.Laws.Rows
import Derived.Lib.AppendStr
import Derived.ArgAppend
import Derived.Laws.IdiomCopy
import Derived.OrdersHeld
import Derived.Laws.BitsLemmas
import Derived.RowKit
import Derived.Test.YtojncbpeeboooaaFloat
import Derived.Test.YtojncbpeeboooaaWWords
import Derived.Test.YtojncbpeeboooaaWLast
import Derived.Test.YtojncbpeeboooaaWTab
import Derived.Test.YtojncbpeeboooaaWFour
import Derived.Test.YtojncbpeeboooaaWQPut
import Derived.Test.YtojncbpeeboooaaWApart
import Derived.Test.YtojncbpeeboooaaWArr
import Derived.Test.YtojncbpeeboooaaWZeros
import Derived.Test.YtojncbpeeboooaaWFoot
import Derived.Test.YtojncbpeeboooaaWKept
import Derived.Test.YtojncbpeeboooaaWShare
import Derived.Test.YtojncbpeeboooaaWN
import Derived.Test.YtojncbpeeboooaaWFootNe
import Derived.Test.YtojncbpeeboooaaWAt
import Derived.Test.YtojncbpeeboooaaWEqStruct
import Derived.Test.YtojncbpeeboooaaWRepsOne
import Derived.Test.YtojncbpeeboooaaWInv
import Derived.Test.YtojncbpeeboooaaWInvWords
import Derived.Test.YtojncbpeeboooaaWGuard
import Derived.Test.YtojncbpeeboooaaWNEv
import Derived.Test.YtojncbpeeboooaaWMore
namespace Go.Proofs.Ytojncbpeeboooaa.V
open Go.RowKit Go.Proofs.YtojncbpeeboooaaW.PrintWords Go.Proofs.YtojncbpeeboooaaW.PrintLast Go.Proofs.YtojncbpeeboooaaW.PrintMore
attribute [local go_sem] max2_int min2_int max_two min_two max_three min_three max_four min_four   -- for this text's walks alone
set_option linter.unusedVariables false
set_option linter.unusedSimpArgs false



abbrev q0a := @Kd.heap_pair
abbrev q0b := @Kd.C_get
abbrev q0c := @Kd.heap_string
def errW : Option Int → Value
 | none => .nilIface
 | some c => .iface 0 (.int .i64 c)
theorem errW_none : errW none = .nilIface := rfl
theorem errW_some (c : Int) : errW (some c) = .iface 0 (.int .i64 c) := rfl

theorem info3 : (Try.prog.info? 3).map (fun i => (i.zero, i.size, i.bytes)) = some (some (.int .i64 0), 1, 8) := by kernel_rfl
theorem info4 : (Try.prog.info? 4).map (fun i => (i.zero, i.size, i.bytes)) = some (some (.bool false), 1, 1) := by kernel_rfl
theorem info5 : (Try.prog.info? 5).map (fun i => (i.zero, i.size, i.bytes)) = some (some (.int .u8 0), 1, 1) := by kernel_rfl
theorem info9 : (Try.prog.info? 9).map (fun i => (i.zero, i.size, i.bytes)) = some (some (.string ⟨#[]⟩), 1, 16) := by kernel_rfl
theorem info58 : (Try.prog.info? 58).map (fun i => (i.zero, i.size, i.bytes)) = some (some (.agg #[(.string ⟨#[]⟩), (.int .i64 0), (.slice none 0 0)]), 3, 48) := by kernel_rfl
theorem info124 : (Try.prog.info? 124).map (fun i => (i.zero, i.size, i.bytes)) = some (some (.agg #[(.string ⟨#[]⟩), (.int .i64 0)]), 2, 24) := by kernel_rfl
-- the values' own types
/-! #### struct type 124 -/
structure S124 where
 f0 : ByteArray
 f1 : Int
def z124 : S124 := ⟨(⟨#[]⟩ : ByteArray), (0 : Int)⟩
def k124 : Kd S124 := Kd.iso (Kd.pair Kd.string (Kd.int .i64)) (fun x : S124 => (x.f0, x.f1))
theorem k124_heap : Kd.Heap k124 := Kd.heap_iso _ (q0a q0c (Kd.heap_int .i64))
theorem k124_open {w : World} {x : S124} {cs : List Value} (h : k124.K w x cs) : cs = [.string x.f0, .int .i64 x.f1] := by
 obtain ⟨_, _, rfl, rfl, rfl⟩ := h
 exact rfl
theorem k124_openM {w : World} {base : Nat} {ok : Nat → Prop} {x : S124} {cs : List Value} (h : k124.M w base ok x cs) : cs = [.string x.f0, .int .i64 x.f1] := by
 obtain ⟨_, _, rfl, rfl, rfl⟩ := h
 exact rfl
theorem k124_mk (w : World) (x : S124)  : k124.K w x [.string x.f0, .int .i64 x.f1] := ⟨[.string x.f0], [.int .i64 x.f1], rfl, rfl, rfl⟩
theorem k124_mkM (w : World) (base : Nat) (ok : Nat → Prop) (x : S124)  : k124.M w base ok x [.string x.f0, .int .i64 x.f1] := ⟨[.string x.f0], [.int .i64 x.f1], rfl, rfl, rfl⟩
def rd_T124 (xs : List S124) (i : Int) : S124 := xs.getD i.toNat z124
theorem at_T124 {w : World} {A : Option Addr} {n : Nat} {xs : List S124} (h : Kd.C k124 w A n xs) (i : Int) (h0 : 0 ≤ i) (h1 : i < n) : ∃ ad , A = some ad ∧ w.cell? (ad.add (i.toNat * 2)) = some (.string (rd_T124 xs i).f0) ∧ w.cell? ⟨(ad.add (i.toNat * 2)).block, (ad.add (i.toNat * 2)).off + 1, none⟩ = some (.int .i64 (rd_T124 xs i).f1) := by
 obtain ⟨ad, c, e, _, hK, hc0⟩ := q0b h z124 i h0 h1
 have hc : ∀ j u, c[j]? = some u → w.cell? (ad.add (i.toNat * 2 + j)) = some u := hc0
 obtain rfl := k124_open hK
 exact ⟨ad, e, hc 0 _ rfl, by rw [← add_field _ _ 1 (by omega)]; exact hc 1 _ rfl⟩

def rd_L3 (xs : List (List S124)) (i : Int) : (List S124) := xs.getD i.toNat ([] : List S124)
theorem at_L3 {w : World} {A : Option Addr} {n : Nat} {xs : List (List S124)} (h : Kd.C (Kd.slice 124 k124) w A n xs) (i : Int) (h0 : 0 ≤ i) (h1 : i < n) : ∃ ad A0 c0, A = some ad ∧ w.cell? (ad.add i.toNat) = some (.slice A0 (rd_L3 xs i).length c0) ∧ (rd_L3 xs i).length ≤ c0 ∧ k124.C w A0 (rd_L3 xs i).length (rd_L3 xs i) := by
 obtain ⟨ad, c, e, _, hK, hc0⟩ := q0b h ([] : List S124) i h0 h1
 have hc : ∀ j u, c[j]? = some u → w.cell? (ad.add (i.toNat * 1 + j)) = some u := hc0
 obtain ⟨A0, c0, rfl, l0, g0⟩ := hK
 exact ⟨ad, A0, c0, e, by have hq := hc 0 _ rfl; rwa [Nat.mul_one, Nat.add_zero] at hq, l0, g0⟩

/-! #### struct type 58 -/
structure S58 where
 f0 : ByteArray
 f1 : Int
 f2 : (List S124)
def z58 : S58 := ⟨(⟨#[]⟩ : ByteArray), (0 : Int), ([] : List S124)⟩
def k58 : Kd S58 := Kd.iso (Kd.pair Kd.string (Kd.pair (Kd.int .i64) (Kd.slice 124 k124))) (fun x : S58 => (x.f0, x.f1, x.f2))
theorem k58_heap : Kd.Heap k58 := Kd.heap_iso _ (q0a q0c (q0a (Kd.heap_int .i64) (Kd.heap_slice 124 k124_heap)))
theorem k58_open {w : World} {x : S58} {cs : List Value} (h : k58.K w x cs) : ∃ A2 c2, cs = [.string x.f0, .int .i64 x.f1, .slice A2 x.f2.length c2] ∧ x.f2.length ≤ c2 ∧ k124.C w A2 x.f2.length x.f2 := by
 obtain ⟨_, _, rfl, rfl, ⟨_, _, rfl, rfl, ⟨A2, c2, rfl, l2, g2⟩⟩⟩ := h
 exact ⟨A2, c2, rfl, l2, g2⟩
theorem k58_openM {w : World} {base : Nat} {ok : Nat → Prop} {x : S58} {cs : List Value} (h : k58.M w base ok x cs) : ∃ v2, cs = [.string x.f0, .int .i64 x.f1, v2] ∧ k124.R 124 w base ok v2 x.f2 := by
 obtain ⟨_, _, rfl, rfl, ⟨_, _, rfl, rfl, ⟨v2, rfl, g2⟩⟩⟩ := h
 exact ⟨v2, rfl, g2⟩
theorem k58_mk (w : World) (x : S58) {A2 : Option Addr} {c2 : Nat} (l2 : x.f2.length ≤ c2) (g2 : k124.C w A2 x.f2.length x.f2) : k58.K w x [.string x.f0, .int .i64 x.f1, .slice A2 x.f2.length c2] := ⟨[.string x.f0], [.int .i64 x.f1, .slice A2 x.f2.length c2], rfl, rfl, ⟨[.int .i64 x.f1], [.slice A2 x.f2.length c2], rfl, rfl, ⟨A2, c2, rfl, l2, g2⟩⟩⟩
theorem k58_mkM (w : World) (base : Nat) (ok : Nat → Prop) (x : S58) {v2 : Value} (g2 : k124.R 124 w base ok v2 x.f2) : k58.M w base ok x [.string x.f0, .int .i64 x.f1, v2] := ⟨[.string x.f0], [.int .i64 x.f1, v2], rfl, rfl, ⟨[.int .i64 x.f1], [v2], rfl, rfl, ⟨v2, rfl, g2⟩⟩⟩
def rd_T58 (xs : List S58) (i : Int) : S58 := xs.getD i.toNat z58
theorem at_T58 {w : World} {A : Option Addr} {n : Nat} {xs : List S58} (h : Kd.C k58 w A n xs) (i : Int) (h0 : 0 ≤ i) (h1 : i < n) : ∃ ad A2 c2, A = some ad ∧ w.cell? (ad.add (i.toNat * 3)) = some (.string (rd_T58 xs i).f0) ∧ w.cell? ⟨(ad.add (i.toNat * 3)).block, (ad.add (i.toNat * 3)).off + 1, none⟩ = some (.int .i64 (rd_T58 xs i).f1) ∧ w.cell? ⟨(ad.add (i.toNat * 3)).block, (ad.add (i.toNat * 3)).off + 2, none⟩ = some (.slice A2 (rd_T58 xs i).f2.length c2) ∧ (rd_T58 xs i).f2.length ≤ c2 ∧ k124.C w A2 (rd_T58 xs i).f2.length (rd_T58 xs i).f2 := by
 obtain ⟨ad, c, e, _, hK, hc0⟩ := q0b h z58 i h0 h1
 have hc : ∀ j u, c[j]? = some u → w.cell? (ad.add (i.toNat * 3 + j)) = some u := hc0
 obtain ⟨A2, c2, rfl, l2, g2⟩ := k58_open hK
 exact ⟨ad, A2, c2, e, hc 0 _ rfl, by rw [← add_field _ _ 1 (by omega)]; exact hc 1 _ rfl, by rw [← add_field _ _ 2 (by omega)]; exact hc 2 _ rfl, l2, g2⟩

/-! #### struct type 153 -/
structure S153 where
 f0 : ByteArray
 f1 : Int
def z153 : S153 := ⟨(⟨#[]⟩ : ByteArray), (0 : Int)⟩
def k153 : Kd S153 := Kd.iso (Kd.pair Kd.string (Kd.int .i64)) (fun x : S153 => (x.f0, x.f1))
theorem k153_heap : Kd.Heap k153 := Kd.heap_iso _ (q0a q0c (Kd.heap_int .i64))
theorem k153_open {w : World} {x : S153} {cs : List Value} (h : k153.K w x cs) : cs = [.string x.f0, .int .i64 x.f1] := by
 obtain ⟨_, _, rfl, rfl, rfl⟩ := h
 exact rfl
theorem k153_openM {w : World} {base : Nat} {ok : Nat → Prop} {x : S153} {cs : List Value} (h : k153.M w base ok x cs) : cs = [.string x.f0, .int .i64 x.f1] := by
 obtain ⟨_, _, rfl, rfl, rfl⟩ := h
 exact rfl
theorem k153_mk (w : World) (x : S153)  : k153.K w x [.string x.f0, .int .i64 x.f1] := ⟨[.string x.f0], [.int .i64 x.f1], rfl, rfl, rfl⟩
theorem k153_mkM (w : World) (base : Nat) (ok : Nat → Prop) (x : S153)  : k153.M w base ok x [.string x.f0, .int .i64 x.f1] := ⟨[.string x.f0], [.int .i64 x.f1], rfl, rfl, rfl⟩
def rd_T153 (xs : List S153) (i : Int) : S153 := xs.getD i.toNat z153
theorem at_T153 {w : World} {A : Option Addr} {n : Nat} {xs : List S153} (h : Kd.C k153 w A n xs) (i : Int) (h0 : 0 ≤ i) (h1 : i < n) : ∃ ad , A = some ad ∧ w.cell? (ad.add (i.toNat * 2)) = some (.string (rd_T153 xs i).f0) ∧ w.cell? ⟨(ad.add (i.toNat * 2)).block, (ad.add (i.toNat * 2)).off + 1, none⟩ = some (.int .i64 (rd_T153 xs i).f1) := by
 obtain ⟨ad, c, e, _, hK, hc0⟩ := q0b h z153 i h0 h1
 have hc : ∀ j u, c[j]? = some u → w.cell? (ad.add (i.toNat * 2 + j)) = some u := hc0
 obtain rfl := k153_open hK
 exact ⟨ad, e, hc 0 _ rfl, by rw [← add_field _ _ 1 (by omega)]; exact hc 1 _ rfl⟩

def rd_L7 (xs : List (List S153)) (i : Int) : (List S153) := xs.getD i.toNat ([] : List S153)
theorem at_L7 {w : World} {A : Option Addr} {n : Nat} {xs : List (List S153)} (h : Kd.C (Kd.slice 153 k153) w A n xs) (i : Int) (h0 : 0 ≤ i) (h1 : i < n) : ∃ ad A0 c0, A = some ad ∧ w.cell? (ad.add i.toNat) = some (.slice A0 (rd_L7 xs i).length c0) ∧ (rd_L7 xs i).length ≤ c0 ∧ k153.C w A0 (rd_L7 xs i).length (rd_L7 xs i) := by
 obtain ⟨ad, c, e, _, hK, hc0⟩ := q0b h ([] : List S153) i h0 h1
 have hc : ∀ j u, c[j]? = some u → w.cell? (ad.add (i.toNat * 1 + j)) = some u := hc0
 obtain ⟨A0, c0, rfl, l0, g0⟩ := hK
 exact ⟨ad, A0, c0, e, by have hq := hc 0 _ rfl; rwa [Nat.mul_one, Nat.add_zero] at hq, l0, g0⟩

/-! #### struct type 151 -/
structure S151 where
 f0 : ByteArray
 f1 : Int
 f2 : (List S153)
def z151 : S151 := ⟨(⟨#[]⟩ : ByteArray), (0 : Int), ([] : List S153)⟩
def k151 : Kd S151 := Kd.iso (Kd.pair Kd.string (Kd.pair (Kd.int .i64) (Kd.slice 153 k153))) (fun x : S151 => (x.f0, x.f1, x.f2))
theorem k151_heap : Kd.Heap k151 := Kd.heap_iso _ (q0a q0c (q0a (Kd.heap_int .i64) (Kd.heap_slice 153 k153_heap)))
theorem k151_open {w : World} {x : S151} {cs : List Value} (h : k151.K w x cs) : ∃ A2 c2, cs = [.string x.f0, .int .i64 x.f1, .slice A2 x.f2.length c2] ∧ x.f2.length ≤ c2 ∧ k153.C w A2 x.f2.length x.f2 := by
 obtain ⟨_, _, rfl, rfl, ⟨_, _, rfl, rfl, ⟨A2, c2, rfl, l2, g2⟩⟩⟩ := h
 exact ⟨A2, c2, rfl, l2, g2⟩
theorem k151_openM {w : World} {base : Nat} {ok : Nat → Prop} {x : S151} {cs : List Value} (h : k151.M w base ok x cs) : ∃ v2, cs = [.string x.f0, .int .i64 x.f1, v2] ∧ k153.R 153 w base ok v2 x.f2 := by
 obtain ⟨_, _, rfl, rfl, ⟨_, _, rfl, rfl, ⟨v2, rfl, g2⟩⟩⟩ := h
 exact ⟨v2, rfl, g2⟩
theorem k151_mk (w : World) (x : S151) {A2 : Option Addr} {c2 : Nat} (l2 : x.f2.length ≤ c2) (g2 : k153.C w A2 x.f2.length x.f2) : k151.K w x [.string x.f0, .int .i64 x.f1, .slice A2 x.f2.length c2] := ⟨[.string x.f0], [.int .i64 x.f1, .slice A2 x.f2.length c2], rfl, rfl, ⟨[.int .i64 x.f1], [.slice A2 x.f2.length c2], rfl, rfl, ⟨A2, c2, rfl, l2, g2⟩⟩⟩
theorem k151_mkM (w : World) (base : Nat) (ok : Nat → Prop) (x : S151) {v2 : Value} (g2 : k153.R 153 w base ok v2 x.f2) : k151.M w base ok x [.string x.f0, .int .i64 x.f1, v2] := ⟨[.string x.f0], [.int .i64 x.f1, v2], rfl, rfl, ⟨[.int .i64 x.f1], [v2], rfl, rfl, ⟨v2, rfl, g2⟩⟩⟩
def rd_T151 (xs : List S151) (i : Int) : S151 := xs.getD i.toNat z151
theorem at_T151 {w : World} {A : Option Addr} {n : Nat} {xs : List S151} (h : Kd.C k151 w A n xs) (i : Int) (h0 : 0 ≤ i) (h1 : i < n) : ∃ ad A2 c2, A = some ad ∧ w.cell? (ad.add (i.toNat * 3)) = some (.string (rd_T151 xs i).f0) ∧ w.cell? ⟨(ad.add (i.toNat * 3)).block, (ad.add (i.toNat * 3)).off + 1, none⟩ = some (.int .i64 (rd_T151 xs i).f1) ∧ w.cell? ⟨(ad.add (i.toNat * 3)).block, (ad.add (i.toNat * 3)).off + 2, none⟩ = some (.slice A2 (rd_T151 xs i).f2.length c2) ∧ (rd_T151 xs i).f2.length ≤ c2 ∧ k153.C w A2 (rd_T151 xs i).f2.length (rd_T151 xs i).f2 := by
 obtain ⟨ad, c, e, _, hK, hc0⟩ := q0b h z151 i h0 h1
 have hc : ∀ j u, c[j]? = some u → w.cell? (ad.add (i.toNat * 3 + j)) = some u := hc0
 obtain ⟨A2, c2, rfl, l2, g2⟩ := k151_open hK
 exact ⟨ad, A2, c2, e, hc 0 _ rfl, by rw [← add_field _ _ 1 (by omega)]; exact hc 1 _ rfl, by rw [← add_field _ _ 2 (by omega)]; exact hc 2 _ rfl, l2, g2⟩

def rd_L10 (xs : List (List S58)) (i : Int) : (List S58) := xs.getD i.toNat ([] : List S58)
theorem at_L10 {w : World} {A : Option Addr} {n : Nat} {xs : List (List S58)} (h : Kd.C (Kd.slice 58 k58) w A n xs) (i : Int) (h0 : 0 ≤ i) (h1 : i < n) : ∃ ad A0 c0, A = some ad ∧ w.cell? (ad.add i.toNat) = some (.slice A0 (rd_L10 xs i).length c0) ∧ (rd_L10 xs i).length ≤ c0 ∧ k58.C w A0 (rd_L10 xs i).length (rd_L10 xs i) := by
 obtain ⟨ad, c, e, _, hK, hc0⟩ := q0b h ([] : List S58) i h0 h1
 have hc : ∀ j u, c[j]? = some u → w.cell? (ad.add (i.toNat * 1 + j)) = some u := hc0
 obtain ⟨A0, c0, rfl, l0, g0⟩ := hK
 exact ⟨ad, A0, c0, e, by have hq := hc 0 _ rfl; rwa [Nat.mul_one, Nat.add_zero] at hq, l0, g0⟩

def rd_L11 (xs : List (List S151)) (i : Int) : (List S151) := xs.getD i.toNat ([] : List S151)
theorem at_L11 {w : World} {A : Option Addr} {n : Nat} {xs : List (List S151)} (h : Kd.C (Kd.slice 151 k151) w A n xs) (i : Int) (h0 : 0 ≤ i) (h1 : i < n) : ∃ ad A0 c0, A = some ad ∧ w.cell? (ad.add i.toNat) = some (.slice A0 (rd_L11 xs i).length c0) ∧ (rd_L11 xs i).length ≤ c0 ∧ k151.C w A0 (rd_L11 xs i).length (rd_L11 xs i) := by
 obtain ⟨ad, c, e, _, hK, hc0⟩ := q0b h ([] : List S151) i h0 h1
 have hc : ∀ j u, c[j]? = some u → w.cell? (ad.add (i.toNat * 1 + j)) = some u := hc0
 obtain ⟨A0, c0, rfl, l0, g0⟩ := hK
 exact ⟨ad, A0, c0, e, by have hq := hc 0 _ rfl; rwa [Nat.mul_one, Nat.add_zero] at hq, l0, g0⟩

-- aliases
theorem zO {p : Prop} [Decidable p] (h : decide p = true := by first | (with_reducible assumption) | assumption) : p := of_decide_eq_true h
abbrev za := @Aside0.mk
abbrev zb := @blk_alloc
abbrev zc := @blk_drewN
abbrev zd := @pw_below_drewN
abbrev ze := @blk_drew
abbrev zf := @below_set
abbrev zg := @below_drew1
abbrev zh := @below_alloc
abbrev zi := @blk_cell
abbrev zj := @World.block_lt_of_cell?
abbrev zk := @blk_frozen
abbrev zl := @Kd.R_alloc
abbrev zm := @Kd.R_drewN
abbrev zn := @Kd.R_drew
abbrev zo := @blk_below
abbrev zp := @below_size
abbrev zq := @below_step
abbrev zr := @Kd.R_far
abbrev zs := @blk_far
abbrev zt := @Kd.R_below
abbrev zu := @Kd.C_alloc
abbrev zv := @Kd.C_drewN
abbrev zw := @blk_put
abbrev zx := @Kd.R_mono
abbrev zy := @Kd.C_drew
abbrev zz := @blk_lt
abbrev zaa := @Kd.R_types
abbrev zab := @Kd.C_below
abbrev zac := @Kd.C_kept_now
abbrev zad := @Kd.S_alloc
abbrev zae := @Kd.S_drewN
abbrev zaf := @Kd.R_slice
abbrev zag := @Kd.S_drew
abbrev zah := @Kd.R_lower
abbrev zai := @Kd.R_base
abbrev zaj := @Kd.R_elder'
abbrev zak := @Kd.R_lt
abbrev zal := @Kd.R_new'
abbrev zam := @Kd.S_below
abbrev zan := @Kd.S_reads'
abbrev zao := @Kd.at_int
abbrev zap := @Kd.R_ne
abbrev zaq := @blk_kept
abbrev zar := @Kd.S_far
abbrev zas := @Kd.R_newM
abbrev zat := @Kd.R_nil
abbrev zau := @Kd.R_keptB
abbrev zav := @Kd.S_elder'
abbrev zaw := @blk_grown
abbrev zax := @Kd.R_tight
abbrev zay := @Kd.C_kept_came
abbrev zaz := @Kd.S_mono
abbrev zba := @Kd.N_nil
abbrev zbb := @Kd.V_nil
abbrev zbc := @Kd.Q_nil
abbrev zbd := @Kd.S_nil
abbrev zbe := @Kd.R_reok
abbrev zbf := @Kd.R_typed
abbrev zbg := @Kd.S_types
abbrev zbh := @Kept.of_grown
abbrev zbi := @Kd.S_new'
abbrev zbj := @Kd.S_lower
abbrev zbk := @Kd.R_elem
abbrev zbl := @Kd.S_slice
abbrev zbm := @Kd.R_lit
abbrev zbn := @Kd.C_kept_call
abbrev zbo := @Kd.C_kept_own
abbrev zbp := @Kd.C_of_reads
abbrev zbq := @Kd.reads_of_C
abbrev zbr := @Kd.at_string
theorem zG70 {p : Prop} (h : p := by first | exact HK.out.1 | exact (show Kept w _ (fun k_ => ((P4_0_ k_) ∨ k_ = gi3) ∨ k_ = gi4) from by repeat (first | (with_reducible first | exact HK.out | apply Kept.alloc | apply Kept.drewN | apply Kept.drew | refine Kept.setCell ?_ (.inl (Or.inl (Or.inr rfl))) _ | refine Kept.setCell ?_ (.inl (Or.inr rfl)) _) | exact HK.out)).1) : p := h
theorem zG71 {p : Prop} (h : p := by first | exact HK.out.1 | exact (show Kept w _ (fun k_ => (P0_2_ k_) ∨ k_ = gi0) from by repeat (first | (with_reducible first | exact HK.out | apply Kept.alloc | apply Kept.drewN | apply Kept.drew | refine Kept.setCell ?_ (.inl (Or.inr rfl)) _) | exact HK.out)).1) : p := h
theorem zG72 {p : Prop} (h : p := by repeat (first | (with_reducible first | exact HK.out | apply Kept.alloc | apply Kept.drewN | apply Kept.drew | refine Kept.setCell ?_ (.inl (Or.inl (Or.inr rfl))) _ | refine Kept.setCell ?_ (.inl (Or.inr rfl)) _) | exact HK.out)) : p := h
theorem zG73 {p : Prop} (h : p := by repeat (first | (with_reducible first | exact HB.out | apply zh | apply zd | apply zg | refine zf ?_ GE1.out | refine zf ?_ GE2.out | refine zf ?_ GE3.out | refine zf ?_ GE4.out | refine zf ?_ GE5.out) | exact HB.out)) : p := h
theorem zG74 {p : Prop} (h : p := by repeat (first | (with_reducible first | exact HK.out | apply Kept.alloc | apply Kept.drewN | apply Kept.drew | refine Kept.setCell ?_ (.inl (Or.inr rfl)) _ | refine Kept.setCell ?_ (.inr GW258.out) _) | exact HK.out)) : p := h
theorem zG75 {p : Prop} (h : p := by repeat (first | (with_reducible first | exact HB.out | apply zh | apply zd | apply zg | refine zf ?_ GE196.out | refine zf ?_ GE197.out | refine zf ?_ GE198.out) | exact HB.out)) : p := h
theorem zG76 {p : Prop} (h : p := by repeat (first | (with_reducible first | exact HK.out | apply Kept.alloc | apply Kept.drewN | apply Kept.drew | refine Kept.setCell ?_ (.inl (Or.inr rfl)) _) | exact HK.out)) : p := h
theorem zG77 {p : Prop} (h : p := by repeat (first | (with_reducible first | exact HB.out | apply zh | apply zd | apply zg | refine zf ?_ GE365.out | refine zf ?_ GE378.out) | exact HB.out)) : p := h
theorem zG78 {p : Prop} (h : p := by repeat (first | (with_reducible first | exact HB.out | apply zh | apply zd | apply zg | refine zf ?_ GE230.out | refine zf ?_ GE232.out) | exact HB.out)) : p := h
theorem zG79 {p : Prop} (h : p := by repeat (first | (with_reducible first | exact HB.out | apply zh | apply zd | apply zg | refine zf ?_ GE0.out | refine zf ?_ GE258.out) | exact HB.out)) : p := h
theorem zG80 {p : Prop} (h : p := by (try simp only [List.map_toArray, List.map_cons, List.map_nil]); first | done | rfl | (simp only [List.length_drop, List.length_take]; rfl)) : p := h
theorem zG81 {p : Prop} (h : p := by repeat (first | (with_reducible first | exact HB.out | apply zh | apply zd | apply zg | refine zf ?_ GE324.out) | exact HB.out)) : p := h
theorem zG82 {p : Prop} (h : p := by repeat (first | (with_reducible first | exact HB.out | apply zh | apply zd | apply zg | refine zf ?_ GE332.out) | exact HB.out)) : p := h
theorem zG83 {p : Prop} (h : p := by repeat (first | (with_reducible first | exact HB.out | apply zh | apply zd | apply zg | refine zf ?_ GE365.out) | exact HB.out)) : p := h
theorem zG84 {p : Prop} (h : p := by repeat (first | (with_reducible first | exact HB.out | apply zh | apply zd | apply zg | refine zf ?_ GE0.out) | exact HB.out)) : p := h
theorem zG85 {p : Prop} (h : p := by repeat (first | (with_reducible first | exact HB.out | apply zh | apply zd | apply zg) | exact HB.out)) : p := h
theorem zG86 {p : Prop} (h : p := by (with_reducible repeat (first | refine zc ?_ _ | refine ze ?_ | refine zb ?_ _)); exact BK196.out) : p := h
theorem zG87 {p : Prop} (h : p := by (with_reducible repeat (first | refine zc ?_ _ | refine ze ?_ | refine zb ?_ _)); exact BK197.out) : p := h
theorem zG88 {p : Prop} (h : p := by (with_reducible repeat (first | refine zc ?_ _ | refine ze ?_ | refine zb ?_ _)); exact BK198.out) : p := h
theorem zG89 {p : Prop} (h : p := by (with_reducible repeat (first | refine zc ?_ _ | refine ze ?_ | refine zb ?_ _)); exact BK332.out) : p := h
theorem zG90 {p : Prop} (h : p := by (with_reducible repeat (first | refine zc ?_ _ | refine ze ?_ | refine zb ?_ _)); exact BK258.out) : p := h
theorem zG91 {p : Prop} (h : p := by (with_reducible repeat (first | refine zc ?_ _ | refine ze ?_ | refine zb ?_ _)); exact BK365.out) : p := h
theorem zG92 {p : Prop} (h : p := by (with_reducible repeat (first | refine zc ?_ _ | refine ze ?_ | refine zb ?_ _)); exact BK378.out) : p := h
theorem zG93 {p : Prop} (h : p := by (with_reducible repeat (first | refine zc ?_ _ | refine ze ?_ | refine zb ?_ _)); exact BK277.out) : p := h
theorem zG94 {p : Prop} (h : p := by (with_reducible repeat (first | refine zc ?_ _ | refine ze ?_ | refine zb ?_ _)); exact BK230.out) : p := h
theorem zG95 {p : Prop} (h : p := by (with_reducible repeat (first | refine zc ?_ _ | refine ze ?_ | refine zb ?_ _)); exact BK1.out) : p := h
theorem zG96 {p : Prop} (h : p := by (with_reducible repeat (first | refine zc ?_ _ | refine ze ?_ | refine zb ?_ _)); exact BK2.out) : p := h
theorem zG97 {p : Prop} (h : p := by (with_reducible repeat (first | refine zc ?_ _ | refine ze ?_ | refine zb ?_ _)); exact BK3.out) : p := h
theorem zG98 {p : Prop} (h : p := by (with_reducible repeat (first | refine zc ?_ _ | refine ze ?_ | refine zb ?_ _)); exact BK4.out) : p := h
theorem zG99 {p : Prop} (h : p := by (with_reducible repeat (first | refine zc ?_ _ | refine ze ?_ | refine zb ?_ _)); exact BK5.out) : p := h
theorem zG100 {p : Prop} (h : p := by (with_reducible repeat (first | refine zc ?_ _ | refine ze ?_ | refine zb ?_ _)); exact BK0.out) : p := h
theorem zG101 {p : Prop} (h : p := by (with_reducible repeat (first | apply zl | apply zm | apply zn)); exact HO_366000.out) : p := h
theorem zG102 {p : Prop} (h : p := by (with_reducible repeat (first | apply zl | apply zm | apply zn)); exact HO_379000.out) : p := h
theorem zG103 {p : Prop} (h : p := by (with_reducible repeat (first | apply zl | apply zm | apply zn)); exact HO0_2.out) : p := h
theorem zG104 {p : Prop} (h : p := by (with_reducible repeat (first | apply zl | apply zm | apply zn)); exact HO_9.out) : p := h
theorem zG105 {p : Prop} (h : p := by first | rfl | (simp; done) | (simp [*]; done)) : p := h
theorem zG106 {p : Prop} (h : p := by kernel_rfl) : p := h
theorem zG107 {p : Prop} (h : p := by decide) : p := h
-- pressed
abbrev zA_ := @And.intro
-- pressed twice
theorem zAi {a b c : Prop} (h : a → b → c) : a ∧ b → c := fun x => h x.1 x.2
theorem zP {P : Program} {ops : Array Oper} {Q : Exit → Act → World → Prop} {md : Region.Mode} {S : World → Prop} {ds : List Nat} {T : Bool × List (List Nat × List Nat)} {oi : Oper} {v : Value} {fuel : Nat} {l : Array Bool} {a a' : Act} {w : World} (i : Nat) (N : Tmp) (l' : Array Bool) (hT : Aside0 (rtab md ops = T)) (h : wpAnyLast P md ops Q S ds fuel l' a' w) (hi : ops[i]? = some oi := by rfl) (hN : oi.dst = some N := by rfl) (hc : anyT T l.toList l'.toList i = true := by kernel_rfl) (hQ : ∀ c a w, Q (.panic c) (a.put oi.dst v) w → Q (.panic c) a w := by exact fun _ _ _ h => h) (hw : Region.wanted oi (yielded ops a.tmps) = true := by rfl) (hy : ∀ w, (execOp a.eval oi).run P w = .ok (.value v) w := by intro w'; go_simp; with_reducible rfl) (ha : a.put (some N) v = a' := by simp only [Act.put, List.setIfInBounds_toArray, List.set_cons_zero, List.set_cons_succ, i64_w, i32_w]; rfl) : wpAnyLast P md ops Q S ds (fuel + 1) l a w := pure_ l' hi hN (any_of hT.out hc) hQ (Or.inl ⟨hw, hy⟩) ha h
theorem zQ {P : Program} {ops : Array Oper} {Q : Exit → Act → World → Prop} {md : Region.Mode} {S : World → Prop} {ds : List Nat} {T : Bool × List (List Nat × List Nat)} {oi : Oper} {v : Value} {fuel : Nat} {l : Array Bool} {a a' : Act} {w : World} {B : List Nat} (i : Nat) (N : Tmp) (l' : Array Bool) (hT : Aside0 (rtab md ops = T)) (hW : Aside0 (waitsOk T.2 B = true)) (hS : S w) (h : wpAnyLast P md ops Q S ds fuel l' a' w) (hi : ops[i]? = some oi := by rfl) (hN : oi.dst = some N := by rfl) (hc : takeW T B ds l.toList l'.toList i = true := by kernel_rfl) (hQ : ∀ c a w, Q (.panic c) (a.put oi.dst v) w → Q (.panic c) a w := by exact fun _ _ _ h => h) (hw : Region.wanted oi (yielded ops a.tmps) = true := by rfl) (hy : ∀ w, S w → (execOp a.eval oi).run P w = .ok (.value v) w := by intro w'; (repeat (refine zAi ?_; intro _)); intro _; go_simp; with_reducible rfl) (ha : a.put (some N) v = a' := by simp only [Act.put, List.setIfInBounds_toArray, List.set_cons_zero, List.set_cons_succ, i64_w, i32_w]; rfl) : wpAnyLast P md ops Q S ds (fuel + 1) l a w := take_ l' hi hN (take_ofW hT.out hW.out hc) hQ (Or.inl ⟨hw, hy⟩) hS ha h
theorem zU {P : Program} {ops : Array Oper} {Q : Exit → Act → World → Prop} {md : Region.Mode} {S : World → Prop} {ds : List Nat} {T : Bool × List (List Nat × List Nat)} {oi : Oper} {fuel : Nat} {l : Array Bool} {a a' : Act} {w : World} (i : Nat) (N : Tmp) (l' : Array Bool) (hT : Aside0 (rtab md ops = T)) (h : wpAnyLast P md ops Q S ds fuel l' a' w) (hi : ops[i]? = some oi := by rfl) (hN : oi.dst = some N := by rfl) (hc : anyT T l.toList l'.toList i = true := by kernel_rfl) (hQ : ∀ c a w, Q (.panic c) (a.put oi.dst undef) w → Q (.panic c) a w := by exact fun _ _ _ h => h) (hw : Region.wanted oi (yielded ops a.tmps) = false := by rfl) (ha : a.put (some N) undef = a' := by simp only [Act.put, List.setIfInBounds_toArray, List.set_cons_zero, List.set_cons_succ, i64_w, i32_w]; rfl) : wpAnyLast P md ops Q S ds (fuel + 1) l a w := pure_ l' hi hN (any_of hT.out hc) hQ (Or.inr ⟨hw, rfl⟩) ha h
def zM (n m : Nat) : Array Bool := ⟨(List.range n).map (fun i => Nat.testBit m i)⟩
theorem zB1 {w : World} {g : Nat} {t : TypeId} {v0 : Value} (h : w.heap[g]? = some (.cells #[v0] t (0, 0))) : w.cell? ⟨g, 0, none⟩ = some v0 ∧ w.frozen? ⟨g, 0, none⟩ = false := ⟨(blk_cell h 0).trans rfl, blk_frozen h 0⟩
theorem zB2 {w : World} {g : Nat} {t : TypeId} {v0 v1 : Value} (h : w.heap[g]? = some (.cells #[v0, v1] t (0, 0))) : w.cell? ⟨g, 0, none⟩ = some v0 ∧ w.cell? ⟨g, 1, none⟩ = some v1 ∧ w.frozen? ⟨g, 0, none⟩ = false ∧ w.frozen? ⟨g, 1, none⟩ = false := ⟨(blk_cell h 0).trans rfl, (blk_cell h 1).trans rfl, blk_frozen h 0, blk_frozen h 1⟩
theorem zB3 {w : World} {g : Nat} {t : TypeId} {v0 v1 v2 : Value} (h : w.heap[g]? = some (.cells #[v0, v1, v2] t (0, 0))) : w.cell? ⟨g, 0, none⟩ = some v0 ∧ w.cell? ⟨g, 1, none⟩ = some v1 ∧ w.cell? ⟨g, 2, none⟩ = some v2 ∧ w.frozen? ⟨g, 0, none⟩ = false ∧ w.frozen? ⟨g, 1, none⟩ = false ∧ w.frozen? ⟨g, 2, none⟩ = false := ⟨(blk_cell h 0).trans rfl, (blk_cell h 1).trans rfl, (blk_cell h 2).trans rfl, blk_frozen h 0, blk_frozen h 1, blk_frozen h 2⟩
theorem zB6 {w : World} {g : Nat} {t : TypeId} {v0 v1 v2 v3 v4 v5 : Value} (h : w.heap[g]? = some (.cells #[v0, v1, v2, v3, v4, v5] t (0, 0))) : w.cell? ⟨g, 0, none⟩ = some v0 ∧ w.cell? ⟨g, 1, none⟩ = some v1 ∧ w.cell? ⟨g, 2, none⟩ = some v2 ∧ w.cell? ⟨g, 3, none⟩ = some v3 ∧ w.cell? ⟨g, 4, none⟩ = some v4 ∧ w.cell? ⟨g, 5, none⟩ = some v5 ∧ w.frozen? ⟨g, 0, none⟩ = false ∧ w.frozen? ⟨g, 1, none⟩ = false ∧ w.frozen? ⟨g, 2, none⟩ = false ∧ w.frozen? ⟨g, 3, none⟩ = false ∧ w.frozen? ⟨g, 4, none⟩ = false ∧ w.frozen? ⟨g, 5, none⟩ = false := ⟨(blk_cell h 0).trans rfl, (blk_cell h 1).trans rfl, (blk_cell h 2).trans rfl, (blk_cell h 3).trans rfl, (blk_cell h 4).trans rfl, (blk_cell h 5).trans rfl, blk_frozen h 0, blk_frozen h 1, blk_frozen h 2, blk_frozen h 3, blk_frozen h 4, blk_frozen h 5⟩
theorem zN1 (p : Nat) {b s : Nat} (hg : b = s) (h : p ≤ s) : Aside0 (p ≤ b) := ⟨hg ▸ h⟩
theorem zN2 {a b s : Nat} (hg : b = s) (h : a < s) : Aside0 (a ≠ b) ∧ Aside0 (b ≠ a) := ⟨⟨by subst hg; exact Nat.ne_of_lt h⟩, ⟨by subst hg; exact Nat.ne_of_gt h⟩⟩
theorem zN3 {a b s : Nat} {c : Prop} (hg : b = s) (h : a < s) (r : c) : Aside0 (a ≠ b) ∧ Aside0 (b ≠ a) ∧ c := ⟨(zN2 hg h).1, (zN2 hg h).2, r⟩
theorem zD2 {p0 p1 : Prop} (h0 : p0) (h1 : p1) : Aside0 p0 ∧ Aside0 p1 := ⟨⟨h0⟩, ⟨h1⟩⟩
theorem zD3 {p0 p1 p2 : Prop} (h0 : p0) (h1 : p1) (h2 : p2) : Aside0 p0 ∧ Aside0 p1 ∧ Aside0 p2 := ⟨⟨h0⟩, ⟨h1⟩, ⟨h2⟩⟩
theorem zD4 {p0 p1 p2 p3 : Prop} (h0 : p0) (h1 : p1) (h2 : p2) (h3 : p3) : Aside0 p0 ∧ Aside0 p1 ∧ Aside0 p2 ∧ Aside0 p3 := ⟨⟨h0⟩, ⟨h1⟩, ⟨h2⟩, ⟨h3⟩⟩
theorem zD5 {p0 p1 p2 p3 p4 : Prop} (h0 : p0) (h1 : p1) (h2 : p2) (h3 : p3) (h4 : p4) : Aside0 p0 ∧ Aside0 p1 ∧ Aside0 p2 ∧ Aside0 p3 ∧ Aside0 p4 := ⟨⟨h0⟩, ⟨h1⟩, ⟨h2⟩, ⟨h3⟩, ⟨h4⟩⟩
theorem zD6 {p0 p1 p2 p3 p4 p5 : Prop} (h0 : p0) (h1 : p1) (h2 : p2) (h3 : p3) (h4 : p4) (h5 : p5) : Aside0 p0 ∧ Aside0 p1 ∧ Aside0 p2 ∧ Aside0 p3 ∧ Aside0 p4 ∧ Aside0 p5 := ⟨⟨h0⟩, ⟨h1⟩, ⟨h2⟩, ⟨h3⟩, ⟨h4⟩, ⟨h5⟩⟩
theorem zD7 {p0 p1 p2 p3 p4 p5 p6 : Prop} (h0 : p0) (h1 : p1) (h2 : p2) (h3 : p3) (h4 : p4) (h5 : p5) (h6 : p6) : Aside0 p0 ∧ Aside0 p1 ∧ Aside0 p2 ∧ Aside0 p3 ∧ Aside0 p4 ∧ Aside0 p5 ∧ Aside0 p6 := ⟨⟨h0⟩, ⟨h1⟩, ⟨h2⟩, ⟨h3⟩, ⟨h4⟩, ⟨h5⟩, ⟨h6⟩⟩
theorem zD8 {p0 p1 p2 p3 p4 p5 p6 p7 : Prop} (h0 : p0) (h1 : p1) (h2 : p2) (h3 : p3) (h4 : p4) (h5 : p5) (h6 : p6) (h7 : p7) : Aside0 p0 ∧ Aside0 p1 ∧ Aside0 p2 ∧ Aside0 p3 ∧ Aside0 p4 ∧ Aside0 p5 ∧ Aside0 p6 ∧ Aside0 p7 := ⟨⟨h0⟩, ⟨h1⟩, ⟨h2⟩, ⟨h3⟩, ⟨h4⟩, ⟨h5⟩, ⟨h6⟩, ⟨h7⟩⟩
theorem zD9 {p0 p1 p2 p3 p4 p5 p6 p7 p8 : Prop} (h0 : p0) (h1 : p1) (h2 : p2) (h3 : p3) (h4 : p4) (h5 : p5) (h6 : p6) (h7 : p7) (h8 : p8) : Aside0 p0 ∧ Aside0 p1 ∧ Aside0 p2 ∧ Aside0 p3 ∧ Aside0 p4 ∧ Aside0 p5 ∧ Aside0 p6 ∧ Aside0 p7 ∧ Aside0 p8 := ⟨⟨h0⟩, ⟨h1⟩, ⟨h2⟩, ⟨h3⟩, ⟨h4⟩, ⟨h5⟩, ⟨h6⟩, ⟨h7⟩, ⟨h8⟩⟩
theorem zD10 {p0 p1 p2 p3 p4 p5 p6 p7 p8 p9 : Prop} (h0 : p0) (h1 : p1) (h2 : p2) (h3 : p3) (h4 : p4) (h5 : p5) (h6 : p6) (h7 : p7) (h8 : p8) (h9 : p9) : Aside0 p0 ∧ Aside0 p1 ∧ Aside0 p2 ∧ Aside0 p3 ∧ Aside0 p4 ∧ Aside0 p5 ∧ Aside0 p6 ∧ Aside0 p7 ∧ Aside0 p8 ∧ Aside0 p9 := ⟨⟨h0⟩, ⟨h1⟩, ⟨h2⟩, ⟨h3⟩, ⟨h4⟩, ⟨h5⟩, ⟨h6⟩, ⟨h7⟩, ⟨h8⟩, ⟨h9⟩⟩
theorem zD11 {p0 p1 p2 p3 p4 p5 p6 p7 p8 p9 p10 : Prop} (h0 : p0) (h1 : p1) (h2 : p2) (h3 : p3) (h4 : p4) (h5 : p5) (h6 : p6) (h7 : p7) (h8 : p8) (h9 : p9) (h10 : p10) : Aside0 p0 ∧ Aside0 p1 ∧ Aside0 p2 ∧ Aside0 p3 ∧ Aside0 p4 ∧ Aside0 p5 ∧ Aside0 p6 ∧ Aside0 p7 ∧ Aside0 p8 ∧ Aside0 p9 ∧ Aside0 p10 := ⟨⟨h0⟩, ⟨h1⟩, ⟨h2⟩, ⟨h3⟩, ⟨h4⟩, ⟨h5⟩, ⟨h6⟩, ⟨h7⟩, ⟨h8⟩, ⟨h9⟩, ⟨h10⟩⟩
theorem zD12 {p0 p1 p2 p3 p4 p5 p6 p7 p8 p9 p10 p11 : Prop} (h0 : p0) (h1 : p1) (h2 : p2) (h3 : p3) (h4 : p4) (h5 : p5) (h6 : p6) (h7 : p7) (h8 : p8) (h9 : p9) (h10 : p10) (h11 : p11) : Aside0 p0 ∧ Aside0 p1 ∧ Aside0 p2 ∧ Aside0 p3 ∧ Aside0 p4 ∧ Aside0 p5 ∧ Aside0 p6 ∧ Aside0 p7 ∧ Aside0 p8 ∧ Aside0 p9 ∧ Aside0 p10 ∧ Aside0 p11 := ⟨⟨h0⟩, ⟨h1⟩, ⟨h2⟩, ⟨h3⟩, ⟨h4⟩, ⟨h5⟩, ⟨h6⟩, ⟨h7⟩, ⟨h8⟩, ⟨h9⟩, ⟨h10⟩, ⟨h11⟩⟩
theorem zD16 {p0 p1 p2 p3 p4 p5 p6 p7 p8 p9 p10 p11 p12 p13 p14 p15 : Prop} (h0 : p0) (h1 : p1) (h2 : p2) (h3 : p3) (h4 : p4) (h5 : p5) (h6 : p6) (h7 : p7) (h8 : p8) (h9 : p9) (h10 : p10) (h11 : p11) (h12 : p12) (h13 : p13) (h14 : p14) (h15 : p15) : Aside0 p0 ∧ Aside0 p1 ∧ Aside0 p2 ∧ Aside0 p3 ∧ Aside0 p4 ∧ Aside0 p5 ∧ Aside0 p6 ∧ Aside0 p7 ∧ Aside0 p8 ∧ Aside0 p9 ∧ Aside0 p10 ∧ Aside0 p11 ∧ Aside0 p12 ∧ Aside0 p13 ∧ Aside0 p14 ∧ Aside0 p15 := ⟨⟨h0⟩, ⟨h1⟩, ⟨h2⟩, ⟨h3⟩, ⟨h4⟩, ⟨h5⟩, ⟨h6⟩, ⟨h7⟩, ⟨h8⟩, ⟨h9⟩, ⟨h10⟩, ⟨h11⟩, ⟨h12⟩, ⟨h13⟩, ⟨h14⟩, ⟨h15⟩⟩
theorem zH0 {p : Prop} (h : p := by (with_reducible repeat (first | refine zc ?_ _ | refine ze ?_ | refine zb ?_ _)); refine zw (cs := #[.string ((rd_T58 l0 x5_2).f0), .int .i64 ((rd_T58 l0 x5_2).f1), .slice none 0 0]) ?_ 2 _ rfl; (with_reducible repeat (first | refine zc ?_ _ | refine ze ?_ | refine zb ?_ _)); refine zw (cs := #[.string ((rd_T58 l0 x5_2).f0), .int .i64 0, .slice none 0 0]) ?_ 1 _ rfl; (with_reducible repeat (first | refine zc ?_ _ | refine ze ?_ | refine zb ?_ _)); refine zw (cs := #[.string (⟨#[]⟩ : ByteArray), .int .i64 0, .slice none 0 0]) ?_ 0 _ rfl; (with_reducible repeat (first | refine zc ?_ _ | refine ze ?_ | refine zb ?_ _)); exact BK221.out) : p := h
theorem zH1 {p : Prop} (h : p := by exact ⟨_, by first | rfl | (simp [errW_none, errW_some] <;> rfl) | (simp [*, errW_none, errW_some] <;> rfl), by (with_reducible repeat (first | apply zl | apply zm | apply zn)); exact zx HO0_2.out (fun _ hk => hk.1), zG100, by repeat (first | (with_reducible first | exact HB.out | apply zh | apply zd | apply zg | refine zf ?_ GE0.out | refine zf ?_ GE258.out) | exact HB.out), by repeat (first | (with_reducible first | exact HK.out | apply Kept.alloc | apply Kept.drewN | apply Kept.drew | refine Kept.setCell ?_ (.inl (Or.inr rfl)) _ | refine Kept.setCell ?_ (.inr GW258.out) _) | exact HK.out)⟩) : p := h
theorem zH2 {p : Prop} (h : p := by refine (Kd.R_reads' (e := 3) (base := w.heap.size) (ok := fun k_ => ((True ∧ some k_ ≠ (.slice Ao25 t359.length co25 : Value).ownBlock) ∧ some k_ ≠ (.slice Ao33 t372.length co33 : Value).ownBlock)) (n := t401.length) (c := co100) ?_).2.2; exact (by (with_reducible repeat (first | apply zl | apply zm | apply zn)); exact (zx (zr (p := ⟨gb407, 2, none⟩) (zr (p := ⟨gb407, 1, none⟩) (zr (p := ⟨gb407, 0, none⟩) (zaa HO403.out BK407.out zG107) (fun _ hk => hk.2) (.slice Ao100 t401.length co100)) (fun _ hk => hk.2) (.int .i64 t404)) (fun _ hk => hk.2) (.int .i64 t405)) (fun _ h_ => h_.1)))) : p := h
theorem zH3 {p : Prop} (h : p := by refine (Kd.R_reads' (e := 3) (base := w.heap.size) (ok := fun k_ => (some k_ ≠ (.slice Ao33 t372.length co33 : Value).ownBlock ∧ some k_ ≠ (.slice Ao100 t401.length co100 : Value).ownBlock)) (n := t359.length) (c := co25) ?_).2.2; exact (by (with_reducible repeat (first | apply zl | apply zm | apply zn)); exact (zx (zr (p := ⟨gb407, 2, none⟩) (zr (p := ⟨gb407, 1, none⟩) (zr (p := ⟨gb407, 0, none⟩) (zaa HO_366000.out BK407.out zG107) (fun _ hk => hk.2) (.slice Ao100 t401.length co100)) (fun _ hk => hk.2) (.int .i64 t404)) (fun _ hk => hk.2) (.int .i64 t405)) (fun _ h_ => h_.1)))) : p := h
theorem zH4 {p : Prop} (h : p := by refine (Kd.R_reads' (e := 3) (base := w.heap.size) (ok := fun k_ => (True ∧ some k_ ≠ (.slice Ao25 t359.length co25 : Value).ownBlock)) (n := t372.length) (c := co33) ?_).2.2; exact (by (with_reducible repeat (first | apply zl | apply zm | apply zn)); exact (zx (zr (p := ⟨gb378, 2, none⟩) (zr (p := ⟨gb378, 1, none⟩) (zr (p := ⟨gb378, 0, none⟩) (zaa HO374.out BK378.out zG107) (fun _ hk => hk.2) (.slice Ao33 t372.length co33)) (fun _ hk => hk.2) (.int .i64 t375)) (fun _ hk => hk.2) (.int .i64 t376)) (fun _ h_ => h_.1)))) : p := h
theorem zH5 {p : Prop} (h : p := by refine (Kd.R_reads' (e := 3) (base := w.heap.size) (ok := fun k_ => (True ∧ some k_ ≠ (.slice Ao33 t372.length co33 : Value).ownBlock)) (n := t359.length) (c := co25) ?_).2.2; exact (by (with_reducible repeat (first | apply zl | apply zm | apply zn)); exact (zx (zr (p := ⟨gb378, 2, none⟩) (zr (p := ⟨gb378, 1, none⟩) (zr (p := ⟨gb378, 0, none⟩) (zaa HO361.out BK378.out zG107) (fun _ hk => hk.2) (.slice Ao33 t372.length co33)) (fun _ hk => hk.2) (.int .i64 t375)) (fun _ hk => hk.2) (.int .i64 t376)) (fun _ h_ => h_.1)))) : p := h
theorem zH6 {p : Prop} (h : p := by exact zay k124_heap HR1.out (by repeat (first | (with_reducible first | exact HB.out | apply zh | apply zd | apply zg | refine zf ?_ GE196.out | refine zf ?_ GE197.out | refine zf ?_ GE198.out | refine zf ?_ GE202.out | refine zf ?_ GE203.out | refine zf ?_ GE204.out) | exact HB.out)) (fun k_ hs_ => Or.elim hs_ (fun hs_ => Or.elim hs_ (fun hs_ => (fun e_ => by simp [Value.ownBlock] at e_) hs_) (fun e_ => (by rw [e_]; exact GW203.out))) (fun e_ => (by rw [e_]; exact GW202.out)))) : p := h
theorem zH7 {p : Prop} (h : p := by exact zay k58_heap HR0.out (by repeat (first | (with_reducible first | exact HB.out | apply zh | apply zd | apply zg | refine zf ?_ GE196.out | refine zf ?_ GE197.out | refine zf ?_ GE198.out | refine zf ?_ GE202.out | refine zf ?_ GE203.out | refine zf ?_ GE204.out) | exact HB.out)) (fun k_ hs_ => Or.elim hs_ (fun hs_ => Or.elim hs_ (fun hs_ => (fun e_ => by simp [Value.ownBlock] at e_) hs_) (fun e_ => (by rw [e_]; exact GW203.out))) (fun e_ => (by rw [e_]; exact GW202.out)))) : p := h
theorem zH8 {p : Prop} (h : p := by (with_reducible repeat (first | refine zc ?_ _ | refine ze ?_ | refine zb ?_ _)); refine zs ?_ NB0_258.out _; (with_reducible repeat (first | refine zc ?_ _ | refine ze ?_ | refine zb ?_ _)); refine zs ?_ NB0_258.out _; (with_reducible repeat (first | refine zc ?_ _ | refine ze ?_ | refine zb ?_ _)); refine zs ?_ NB0_258.out _; (with_reducible repeat (first | refine zc ?_ _ | refine ze ?_ | refine zb ?_ _)); exact BK0.out) : p := h
theorem zH9 {p : Prop} (h : p := by exact ⟨by first | rfl | (simp [errW_none, errW_some] <;> rfl) | (simp [*, errW_none, errW_some] <;> rfl), by (with_reducible repeat (first | apply zl | apply zm | apply zn)); exact HO_0.out, by repeat (first | (with_reducible first | exact HB.out | apply zh | apply zd | apply zg) | exact HB.out), by repeat (first | (with_reducible first | exact HK.out | apply Kept.alloc | apply Kept.drewN | apply Kept.drew) | exact HK.out)⟩) : p := h
theorem zH10 {p : Prop} (h : p := by exact ⟨_, by first | rfl | (simp [errW_none, errW_some] <;> rfl) | (simp [*, errW_none, errW_some] <;> rfl), by first | exact zat _ _ _ _ _ | exact zba _ _ _ _ _ | exact zbb _ _ _ _ _ | exact zbc _ _ _ _ _ | exact zbd _ _ _ _ _, by repeat (first | (with_reducible first | exact HB.out | apply zh | apply zd | apply zg | refine zf ?_ GE196.out | refine zf ?_ GE197.out | refine zf ?_ GE198.out) | exact HB.out)⟩) : p := h
theorem zH11 {p : Prop} (h : p := by exact ⟨_, by first | rfl | (simp [errW_none, errW_some] <;> rfl) | (simp [*, errW_none, errW_some] <;> rfl), by first | exact zat _ _ _ _ _ | exact zba _ _ _ _ _ | exact zbb _ _ _ _ _ | exact zbc _ _ _ _ _ | exact zbd _ _ _ _ _, by repeat (first | (with_reducible first | exact HB.out | apply zh | apply zd | apply zg | refine zf ?_ GE230.out | refine zf ?_ GE232.out) | exact HB.out)⟩) : p := h
theorem zH12 {p : Prop} (h : p := by exact ⟨_, by first | rfl | (simp [errW_none, errW_some] <;> rfl) | (simp [*, errW_none, errW_some] <;> rfl), by first | exact zat _ _ _ _ _ | exact zba _ _ _ _ _ | exact zbb _ _ _ _ _ | exact zbc _ _ _ _ _ | exact zbd _ _ _ _ _, by repeat (first | (with_reducible first | exact HB.out | apply zh | apply zd | apply zg | refine zf ?_ GE277.out) | exact HB.out)⟩) : p := h
theorem zH13 {p : Prop} (h : p := by exact ⟨_, by first | rfl | (simp [errW_none, errW_some] <;> rfl) | (simp [*, errW_none, errW_some] <;> rfl), by first | exact zat _ _ _ _ _ | exact zba _ _ _ _ _ | exact zbb _ _ _ _ _ | exact zbc _ _ _ _ _ | exact zbd _ _ _ _ _, by repeat (first | (with_reducible first | exact HB.out | apply zh | apply zd | apply zg | refine zf ?_ GE230.out) | exact HB.out)⟩) : p := h
theorem zH14 {p : Prop} (h : p := by exact zay k124_heap HR1.out (by repeat (first | (with_reducible first | exact HB.out | apply zh | apply zd | apply zg | refine zf ?_ GE277.out | refine zf ?_ GE279.out) | exact HB.out)) (fun k_ hs_ => Or.elim hs_ (fun hs_ => (fun e_ => by simp [Value.ownBlock] at e_) hs_) (fun e_ => (by rw [e_]; exact GW279.out)))) : p := h
theorem zH15 {p : Prop} (h : p := by exact zay k58_heap HR0.out (by repeat (first | (with_reducible first | exact HB.out | apply zh | apply zd | apply zg | refine zf ?_ GE277.out | refine zf ?_ GE279.out) | exact HB.out)) (fun k_ hs_ => Or.elim hs_ (fun hs_ => (fun e_ => by simp [Value.ownBlock] at e_) hs_) (fun e_ => (by rw [e_]; exact GW279.out)))) : p := h
theorem zH16 {p : Prop} (h : p := by repeat (first | exact (by repeat (first | (with_reducible exact HR178_2.out) | (with_reducible refine zu ?_ _) | (with_reducible refine zv ?_ _) | (with_reducible refine zy ?_) | exact HR178_2.out)) | (with_reducible refine zu ?_ _) | (with_reducible refine zv ?_ _) | (with_reducible refine zy ?_))) : p := h
theorem zH17 {p : Prop} (h : p := by repeat (first | exact (by repeat (first | (with_reducible exact HR259_2.out) | (with_reducible refine zu ?_ _) | (with_reducible refine zv ?_ _) | (with_reducible refine zy ?_) | exact HR259_2.out)) | (with_reducible refine zu ?_ _) | (with_reducible refine zv ?_ _) | (with_reducible refine zy ?_))) : p := h
theorem zH18 {p : Prop} (h : p := by exact ⟨by first | rfl | (simp [errW_none, errW_some] <;> rfl) | (simp [*, errW_none, errW_some] <;> rfl), by repeat (first | (with_reducible first | exact HB.out | apply zh | apply zd | apply zg | refine zf ?_ GE365.out | refine zf ?_ GE378.out | refine zf ?_ GE407.out) | exact HB.out)⟩) : p := h
theorem zH19 {p : Prop} (h : p := by repeat (first | (with_reducible first | exact HK.out | apply Kept.alloc | apply Kept.drewN | apply Kept.drew | refine Kept.setCell ?_ (.inl (Or.inl (Or.inr rfl))) _ | refine Kept.setCell ?_ (.inl (Or.inr rfl)) _ | refine Kept.setCell ?_ (.inr GW176.out) _) | exact HK.out)) : p := h
theorem zH20 {p : Prop} (h : p := by (with_reducible repeat (first | refine zc ?_ _ | refine ze ?_ | refine zb ?_ _)); refine zw (cs := #[u233000, .int .i64 x233001_3, .int .i64 x233002_3]) ?_ 0 _ rfl; (with_reducible repeat (first | refine zc ?_ _ | refine ze ?_ | refine zb ?_ _)); exact BK232.out) : p := h
theorem zH21 {p : Prop} (h : p := by exact ⟨by first | rfl | (simp [errW_none, errW_some] <;> rfl) | (simp [*, errW_none, errW_some] <;> rfl), by repeat (first | (with_reducible first | exact HB.out | apply zh | apply zd | apply zg | refine zf ?_ GE226.out | refine zf ?_ GE227.out) | exact HB.out)⟩) : p := h
theorem zH22 {p : Prop} (h : p := by exact ⟨by first | rfl | (simp [errW_none, errW_some] <;> rfl) | (simp [*, errW_none, errW_some] <;> rfl), by repeat (first | (with_reducible first | exact HB.out | apply zh | apply zd | apply zg | refine zf ?_ GE168.out | refine zf ?_ GE169.out) | exact HB.out)⟩) : p := h
theorem zH23 {p : Prop} (h : p := by exact ⟨by first | rfl | (simp [errW_none, errW_some] <;> rfl) | (simp [*, errW_none, errW_some] <;> rfl), by repeat (first | (with_reducible first | exact HB.out | apply zh | apply zd | apply zg | refine zf ?_ GE327.out | refine zf ?_ GE328.out) | exact HB.out)⟩) : p := h
theorem zH24 {p : Prop} (h : p := by exact ⟨by first | rfl | (simp [errW_none, errW_some] <;> rfl) | (simp [*, errW_none, errW_some] <;> rfl), by repeat (first | (with_reducible first | exact HB.out | apply zh | apply zd | apply zg | refine zf ?_ GE324.out | refine zf ?_ GE325.out) | exact HB.out)⟩) : p := h
theorem zH25 {p : Prop} (h : p := by exact ⟨by first | rfl | (simp [errW_none, errW_some] <;> rfl) | (simp [*, errW_none, errW_some] <;> rfl), by repeat (first | (with_reducible first | exact HB.out | apply zh | apply zd | apply zg | refine zf ?_ GE332.out | refine zf ?_ GE333.out) | exact HB.out)⟩) : p := h
theorem zH26 {p : Prop} (h : p := by exact ⟨by first | rfl | (simp [errW_none, errW_some] <;> rfl) | (simp [*, errW_none, errW_some] <;> rfl), by repeat (first | (with_reducible first | exact HB.out | apply zh | apply zd | apply zg | refine zf ?_ GE365.out | refine zf ?_ GE378.out) | exact HB.out)⟩) : p := h
theorem zH27 {p : Prop} (h : p := by exact ⟨by first | rfl | (simp [errW_none, errW_some] <;> rfl) | (simp [*, errW_none, errW_some] <;> rfl), by repeat (first | (with_reducible first | exact HB.out | apply zh | apply zd | apply zg | refine zf ?_ GE1.out | refine zf ?_ GE141.out) | exact HB.out)⟩) : p := h
theorem zH28 {p : Prop} (h : p := by repeat (first | (with_reducible first | exact HB.out | apply zh | apply zd | apply zg | refine zf ?_ GE196.out | refine zf ?_ GE197.out | refine zf ?_ GE198.out | refine zf ?_ GE202.out | refine zf ?_ GE203.out | refine zf ?_ GE204.out) | exact HB.out)) : p := h
theorem zH29 {p : Prop} (h : p := by repeat (first | (with_reducible first | exact HB.out | apply zh | apply zd | apply zg | refine zf ?_ GE196.out | refine zf ?_ GE197.out | refine zf ?_ GE198.out | refine zf ?_ GE202.out | refine zf ?_ GE203.out | refine zf ?_ GE204.out) | exact HB.out)) : p := h
theorem zH30 {p : Prop} (h : p := by repeat (first | (with_reducible first | exact HB.out | apply zh | apply zd | apply zg | refine zf ?_ GE1.out | refine zf ?_ GE2.out | refine zf ?_ GE3.out | refine zf ?_ GE4.out | refine zf ?_ GE5.out | refine zf ?_ GE176.out) | exact HB.out)) : p := h
theorem zH31 {p : Prop} (h : p := by exact ⟨by first | rfl | (simp [errW_none, errW_some] <;> rfl) | (simp [*, errW_none, errW_some] <;> rfl), by repeat (first | (with_reducible first | exact HB.out | apply zh | apply zd | apply zg | refine zf ?_ GE122.out) | exact HB.out)⟩) : p := h
theorem zH32 {p : Prop} (h : p := by exact ⟨by first | rfl | (simp [errW_none, errW_some] <;> rfl) | (simp [*, errW_none, errW_some] <;> rfl), by repeat (first | (with_reducible first | exact HB.out | apply zh | apply zd | apply zg | refine zf ?_ GE221.out) | exact HB.out)⟩) : p := h
theorem zH33 {p : Prop} (h : p := by exact ⟨by first | rfl | (simp [errW_none, errW_some] <;> rfl) | (simp [*, errW_none, errW_some] <;> rfl), by repeat (first | (with_reducible first | exact HB.out | apply zh | apply zd | apply zg | refine zf ?_ GE289.out) | exact HB.out)⟩) : p := h
theorem zH34 {p : Prop} (h : p := by exact ⟨by first | rfl | (simp [errW_none, errW_some] <;> rfl) | (simp [*, errW_none, errW_some] <;> rfl), by repeat (first | (with_reducible first | exact HB.out | apply zh | apply zd | apply zg | refine zf ?_ GE349.out) | exact HB.out)⟩) : p := h
theorem zH35 {p : Prop} (h : p := by exact ⟨by first | rfl | (simp [errW_none, errW_some] <;> rfl) | (simp [*, errW_none, errW_some] <;> rfl), by repeat (first | (with_reducible first | exact HB.out | apply zh | apply zd | apply zg | refine zf ?_ GE134.out) | exact HB.out)⟩) : p := h
theorem zH36 {p : Prop} (h : p := by exact ⟨by first | rfl | (simp [errW_none, errW_some] <;> rfl) | (simp [*, errW_none, errW_some] <;> rfl), by repeat (first | (with_reducible first | exact HB.out | apply zh | apply zd | apply zg | refine zf ?_ GE292.out) | exact HB.out)⟩) : p := h
theorem zH37 {p : Prop} (h : p := by exact ⟨by first | rfl | (simp [errW_none, errW_some] <;> rfl) | (simp [*, errW_none, errW_some] <;> rfl), by repeat (first | (with_reducible first | exact HB.out | apply zh | apply zd | apply zg | refine zf ?_ GE28.out) | exact HB.out)⟩) : p := h
theorem zH38 {p : Prop} (h : p := by repeat (first | (with_reducible first | exact HK.out | apply Kept.alloc | apply Kept.drewN | apply Kept.drew | refine Kept.setCell ?_ (.inl (Or.inl (Or.inr rfl))) _ | refine Kept.setCell ?_ (.inl (Or.inr rfl)) _) | exact HK.out)) : p := h
theorem zH39 {p : Prop} (h : p := by repeat (first | (with_reducible first | exact HB.out | apply zh | apply zd | apply zg | refine zf ?_ GE1.out | refine zf ?_ GE2.out | refine zf ?_ GE3.out | refine zf ?_ GE4.out | refine zf ?_ GE5.out) | exact HB.out)) : p := h
theorem zH40 {p : Prop} (h : p := by repeat (first | (with_reducible first | exact HK.out | apply Kept.alloc | apply Kept.drewN | apply Kept.drew | refine Kept.setCell ?_ (.inl (Or.inr rfl)) _ | refine Kept.setCell ?_ (.inr GW258.out) _) | exact HK.out)) : p := h
theorem zH41 {p : Prop} (h : p := by (with_reducible repeat (first | refine zc ?_ _ | refine ze ?_ | refine zb ?_ _)); refine zs ?_ NB156_160.out _; (with_reducible repeat (first | refine zc ?_ _ | refine ze ?_ | refine zb ?_ _)); exact BK156.out) : p := h
theorem zH42 {p : Prop} (h : p := by (with_reducible repeat (first | refine zc ?_ _ | refine ze ?_ | refine zb ?_ _)); refine zs ?_ NB230_232.out _; (with_reducible repeat (first | refine zc ?_ _ | refine ze ?_ | refine zb ?_ _)); exact BK230.out) : p := h
theorem zH43 {p : Prop} (h : p := by exact ⟨by first | rfl | (simp [errW_none, errW_some] <;> rfl) | (simp [*, errW_none, errW_some] <;> rfl), by repeat (first | (with_reducible first | exact HB.out | apply zh | apply zd | apply zg) | exact HB.out)⟩) : p := h
theorem zH44 {p : Prop} (h : p := by repeat (first | (with_reducible first | exact HB.out | apply zh | apply zd | apply zg | refine zf ?_ GE196.out | refine zf ?_ GE197.out | refine zf ?_ GE198.out) | exact HB.out)) : p := h
theorem zH45 {p : Prop} (h : p := by repeat (first | (with_reducible first | exact HB.out | apply zh | apply zd | apply zg | refine zf ?_ GE365.out | refine zf ?_ GE378.out | refine zf ?_ GE407.out) | exact HB.out)) : p := h
theorem zH46 {p : Prop} (h : p := by repeat (first | (with_reducible first | exact HK.out | apply Kept.alloc | apply Kept.drewN | apply Kept.drew | refine Kept.setCell ?_ (.inl (Or.inr rfl)) _) | exact HK.out)) : p := h
theorem zH47 {p : Prop} (h : p := by exact ⟨by first | rfl | (simp; done) | (simp only [← hji25] <;> (first | rfl | simp)) | (simp [*]; done), by repeat (first | exact Drawn0.refl _ | apply Drawn0.step)⟩) : p := h
theorem zH48 {p : Prop} (h : p := by exact (fun k_ hk => ⟨(.inr (Nat.le_trans zG71 hk)), Kd.fresh' (zak (by (with_reducible repeat (first | apply zl | apply zm | apply zn)); exact HO_1002.out)) k_ hk⟩)) : p := h
theorem zH49 {p : Prop} (h : p := by exact zbo ((zaa HO282.out BK279.out zG107)) (fun k_ hk_ hs_ => Or.elim hs_ (fun hs_ => (fun e_ => by simp [Value.ownBlock] at e_) hs_) (fun e_ => (hk_.2) e_))) : p := h
theorem zH50 {p : Prop} (h : p := by repeat (first | (with_reducible first | exact HB.out | apply zh | apply zd | apply zg | refine zf ?_ GE277.out | refine zf ?_ GE279.out) | exact HB.out)) : p := h
theorem zH51 {p : Prop} (h : p := by repeat (first | (with_reducible first | exact HB.out | apply zh | apply zd | apply zg | refine zf ?_ GE226.out | refine zf ?_ GE227.out) | exact HB.out)) : p := h
theorem zH52 {p : Prop} (h : p := by repeat (first | (with_reducible first | exact HB.out | apply zh | apply zd | apply zg | refine zf ?_ GE332.out | refine zf ?_ GE333.out) | exact HB.out)) : p := h
theorem zH53 {p : Prop} (h : p := by repeat (first | (with_reducible first | exact HB.out | apply zh | apply zd | apply zg | refine zf ?_ GE156.out | refine zf ?_ GE160.out) | exact HB.out)) : p := h
theorem zH54 {p : Prop} (h : p := by repeat (first | (with_reducible first | exact HB.out | apply zh | apply zd | apply zg | refine zf ?_ GE230.out | refine zf ?_ GE232.out) | exact HB.out)) : p := h
theorem zH55 {p : Prop} (h : p := by repeat (first | (with_reducible first | exact HB.out | apply zh | apply zd | apply zg | refine zf ?_ GE365.out | refine zf ?_ GE378.out) | exact HB.out)) : p := h
theorem zH56 {p : Prop} (h : p := by exact zab HR133_2.out (by repeat (first | (with_reducible first | exact HB.out | apply zh | apply zd | apply zg | refine zf ?_ GE134.out) | exact HB.out))) : p := h
theorem zH57 {p : Prop} (h : p := by repeat (first | exact (Kd.R_reads' HO_366000.out).2.2 | (with_reducible refine zu ?_ _) | (with_reducible refine zv ?_ _) | (with_reducible refine zy ?_))) : p := h
theorem zH58 {p : Prop} (h : p := by exact zab HR220_2.out (by repeat (first | (with_reducible first | exact HB.out | apply zh | apply zd | apply zg | refine zf ?_ GE221.out) | exact HB.out))) : p := h
theorem zH59 {p : Prop} (h : p := by repeat (first | exact (Kd.R_reads' HO_379000.out).2.2 | (with_reducible refine zu ?_ _) | (with_reducible refine zv ?_ _) | (with_reducible refine zy ?_))) : p := h
theorem zH60 {p : Prop} (h : p := by repeat (first | (with_reducible first | exact HB.out | apply zh | apply zd | apply zg | refine zf ?_ GE0.out | refine zf ?_ GE258.out) | exact HB.out)) : p := h
theorem zH61 {p : Prop} (h : p := by repeat (first | (with_reducible first | exact HB.out | apply zh | apply zd | apply zg | refine zf ?_ GE277.out | refine zf ?_ GE279.out) | exact HB.out)) : p := h
theorem zH62 {p : Prop} (h : p := by repeat (first | (with_reducible first | exact HB.out | apply zh | apply zd | apply zg | refine zf ?_ GE365.out | refine zf ?_ GE378.out) | exact HB.out)) : p := h
theorem zH63 {p : Prop} (h : p := by repeat (first | exact (Kd.R_reads' HO386.out).2.2 | (with_reducible refine zu ?_ _) | (with_reducible refine zv ?_ _) | (with_reducible refine zy ?_))) : p := h
theorem zH64 {p : Prop} (h : p := by repeat (first | exact (Kd.R_reads' HO_9.out).2.2 | (with_reducible refine zu ?_ _) | (with_reducible refine zv ?_ _) | (with_reducible refine zy ?_))) : p := h
theorem zH65 {p : Prop} (h : p := by repeat (first | exact (zab HR294_2.out HB.out) | (with_reducible refine zu ?_ _) | (with_reducible refine zv ?_ _) | (with_reducible refine zy ?_))) : p := h
theorem zH66 {p : Prop} (h : p := by repeat (first | exact (zab HR335_2.out HB.out) | (with_reducible refine zu ?_ _) | (with_reducible refine zv ?_ _) | (with_reducible refine zy ?_))) : p := h
theorem zH67 {p : Prop} (h : p := by repeat (first | exact (zab HR336_2.out HB.out) | (with_reducible refine zu ?_ _) | (with_reducible refine zv ?_ _) | (with_reducible refine zy ?_))) : p := h
theorem zH68 {p : Prop} (h : p := by repeat (first | exact (zab HR162_2.out HB.out) | (with_reducible refine zu ?_ _) | (with_reducible refine zv ?_ _) | (with_reducible refine zy ?_))) : p := h
theorem zH69 {p : Prop} (h : p := by repeat (first | exact (zab HR239_2.out HB.out) | (with_reducible refine zu ?_ _) | (with_reducible refine zv ?_ _) | (with_reducible refine zy ?_))) : p := h
theorem zH70 {p : Prop} (h : p := by repeat (first | exact (zab HR165.out HB.out) | (with_reducible refine zu ?_ _) | (with_reducible refine zv ?_ _) | (with_reducible refine zy ?_))) : p := h
theorem zH71 {p : Prop} (h : p := by repeat (first | exact (zab HR1_2.out HB.out) | (with_reducible refine zu ?_ _) | (with_reducible refine zv ?_ _) | (with_reducible refine zy ?_))) : p := h
theorem zH72 {p : Prop} (h : p := by repeat (first | exact (zab HR1_0.out HB.out) | (with_reducible refine zu ?_ _) | (with_reducible refine zv ?_ _) | (with_reducible refine zy ?_))) : p := h
theorem zH73 {p : Prop} (h : p := by repeat (first | exact (zab HR0_2.out HB.out) | (with_reducible refine zu ?_ _) | (with_reducible refine zv ?_ _) | (with_reducible refine zy ?_))) : p := h
theorem zH74 {p : Prop} (h : p := by repeat (first | exact (zab HR0_0.out HB.out) | (with_reducible refine zu ?_ _) | (with_reducible refine zv ?_ _) | (with_reducible refine zy ?_))) : p := h
theorem zH75 {p : Prop} (h : p := by repeat (first | exact (zab HR0.out HB.out) | (with_reducible refine zu ?_ _) | (with_reducible refine zv ?_ _) | (with_reducible refine zy ?_))) : p := h
theorem zH76 {p : Prop} (h : p := by repeat (first | exact (zab HR1.out HB.out) | (with_reducible refine zu ?_ _) | (with_reducible refine zv ?_ _) | (with_reducible refine zy ?_))) : p := h
theorem zH77 {p : Prop} (h : p := by repeat (first | exact (zan HO382.out).2.2 | (with_reducible refine zu ?_ _) | (with_reducible refine zv ?_ _) | (with_reducible refine zy ?_))) : p := h
theorem zH78 {p : Prop} (h : p := by repeat (first | exact (zan HO_8.out).2.2 | (with_reducible refine zu ?_ _) | (with_reducible refine zv ?_ _) | (with_reducible refine zy ?_))) : p := h
theorem zH79 {p : Prop} (h : p := by repeat (first | exact HR115.out | (with_reducible refine zu ?_ _) | (with_reducible refine zv ?_ _) | (with_reducible refine zy ?_))) : p := h
theorem zH80 {p : Prop} (h : p := by repeat (first | (with_reducible first | exact HB.out | apply zh | apply zd | apply zg | refine zf ?_ GE122.out) | exact HB.out)) : p := h
theorem zH81 {p : Prop} (h : p := by repeat (first | (with_reducible first | exact HB.out | apply zh | apply zd | apply zg | refine zf ?_ GE292.out) | exact HB.out)) : p := h
theorem zH82 {p : Prop} (h : p := by repeat (first | (with_reducible first | exact HB.out | apply zh | apply zd | apply zg | refine zf ?_ GE134.out) | exact HB.out)) : p := h
theorem zH83 {p : Prop} (h : p := by repeat (first | (with_reducible first | exact HB.out | apply zh | apply zd | apply zg | refine zf ?_ GE277.out) | exact HB.out)) : p := h
theorem zH84 {p : Prop} (h : p := by repeat (first | exact HR0.out | (with_reducible refine zu ?_ _) | (with_reducible refine zv ?_ _) | (with_reducible refine zy ?_))) : p := h
theorem zH85 {p : Prop} (h : p := by repeat (first | (with_reducible first | exact HB.out | apply zh | apply zd | apply zg | refine zf ?_ GE230.out) | exact HB.out)) : p := h
theorem zH86 {p : Prop} (h : p := by repeat (first | (with_reducible first | exact HB.out | apply zh | apply zd | apply zg | refine zf ?_ GE221.out) | exact HB.out)) : p := h
theorem zH87 {p : Prop} (h : p := by repeat (first | (with_reducible first | exact HB.out | apply zh | apply zd | apply zg | refine zf ?_ GE28.out) | exact HB.out)) : p := h
theorem zH88 {p : Prop} (h : p := by repeat (first | (with_reducible first | exact HB.out | apply zh | apply zd | apply zg | refine zf ?_ GE0.out) | exact HB.out)) : p := h
theorem zH89 {p : Prop} (h : p := by repeat (first | (with_reducible first | exact HK.out | apply Kept.alloc | apply Kept.drewN | apply Kept.drew) | exact HK.out)) : p := h
theorem zH90 {p : Prop} (h : p := by first | exact zat _ _ _ _ _ | exact zba _ _ _ _ _ | exact zbb _ _ _ _ _ | exact zbc _ _ _ _ _ | exact zbd _ _ _ _ _) : p := h
theorem zH91 {p : Prop} (h : p := by exact ⟨by first | rfl | (simp; done) | (simp [*]; done), by repeat (first | exact Drawn0.refl _ | apply Drawn0.step)⟩) : p := h
theorem zH92 {p : Prop} (h : p := by (with_reducible repeat (first | apply zl | apply zm | apply zn)); exact zx HO403.out (fun _ hk => ⟨hk.1.2, hk.2⟩)) : p := h
theorem zH93 {p : Prop} (h : p := by rw [show t393.length = t372.length from (Kd.R_reads' HO_379000.out).1.symm]; exact (Kd.R_reads' HO_379000.out).2.1) : p := h
theorem zH94 {p : Prop} (h : p := by (with_reducible repeat (first | apply zad | apply zae | apply zag)); exact zaz HO368.out (fun _ hk => hk.2)) : p := h
theorem zH95 {p : Prop} (h : p := by (with_reducible repeat (first | apply zl | apply zm | apply zn)); exact zx HO371.out (fun _ hk => trivial)) : p := h
theorem zH96 {p : Prop} (h : p := by exact (by (with_reducible repeat (first | refine zc ?_ _ | refine ze ?_ | refine zb ?_ _)); exact BK202.out)) : p := h
theorem zH97 {p : Prop} (h : p := by exact (by (with_reducible repeat (first | refine zc ?_ _ | refine ze ?_ | refine zb ?_ _)); exact BK203.out)) : p := h
theorem zH98 {p : Prop} (h : p := by exact (by (with_reducible repeat (first | refine zc ?_ _ | refine ze ?_ | refine zb ?_ _)); exact BK204.out)) : p := h
theorem zH99 {p : Prop} (h : p := by exact (by (with_reducible repeat (first | refine zc ?_ _ | refine ze ?_ | refine zb ?_ _)); exact BK279.out)) : p := h
theorem zH100 {p : Prop} (h : p := by repeat (first | (with_reducible first | exact HB0.out | apply zh | apply zd | apply zg) | exact HB0.out)) : p := h
theorem zH101 {p : Prop} (h : p := by exact (by (with_reducible repeat (first | refine zc ?_ _ | refine ze ?_ | refine zb ?_ _)); exact BK28.out)) : p := h
theorem zH102 {p : Prop} (h : p := by (with_reducible repeat (first | apply zl | apply zm | apply zn)); exact zx HO361.out (fun _ hk => hk.2)) : p := h
theorem zH103 {p : Prop} (h : p := by (with_reducible repeat (first | apply zl | apply zm | apply zn)); exact zx HO374.out (fun _ hk => hk.2)) : p := h
theorem zH104 {p : Prop} (h : p := by repeat (first | (with_reducible first | exact HB.out | apply zh | apply zd | apply zg) | exact HB.out)) : p := h
theorem zH105 {p : Prop} (h : p := by (with_reducible repeat (first | refine zc ?_ _ | refine ze ?_ | refine zb ?_ _)); exact BK232.out) : p := h
theorem zH106 {p : Prop} (h : p := by (with_reducible repeat (first | refine zc ?_ _ | refine ze ?_ | refine zb ?_ _)); exact BK230.out) : p := h
theorem zH107 {p : Prop} (h : p := by (with_reducible repeat (first | refine zc ?_ _ | refine ze ?_ | refine zb ?_ _)); exact BK365.out) : p := h
theorem zH108 {p : Prop} (h : p := by (with_reducible repeat (first | refine zc ?_ _ | refine ze ?_ | refine zb ?_ _)); exact BK378.out) : p := h
theorem zH109 {p : Prop} (h : p := by (with_reducible repeat (first | refine zc ?_ _ | refine ze ?_ | refine zb ?_ _)); exact BK0.out) : p := h
theorem zH110 {p : Prop} (h : p := by (with_reducible repeat (first | refine zc ?_ _ | refine ze ?_ | refine zb ?_ _)); exact BK1.out) : p := h
theorem zH111 {p : Prop} (h : p := by (with_reducible repeat (first | refine zc ?_ _ | refine ze ?_ | refine zb ?_ _)); exact BK2.out) : p := h
theorem zH112 {p : Prop} (h : p := by (with_reducible repeat (first | refine zc ?_ _ | refine ze ?_ | refine zb ?_ _)); exact BK3.out) : p := h
theorem zH113 {p : Prop} (h : p := by (with_reducible repeat (first | refine zc ?_ _ | refine ze ?_ | refine zb ?_ _)); exact BK4.out) : p := h
theorem zH114 {p : Prop} (h : p := by (with_reducible repeat (first | refine zc ?_ _ | refine ze ?_ | refine zb ?_ _)); exact BK5.out) : p := h
theorem zH115 {p : Prop} (h : p := by first | rfl | (simp [errW_none, errW_some] <;> rfl) | (simp [*, errW_none, errW_some] <;> rfl)) : p := h
theorem zH116 {p : Prop} (h : p := by (with_reducible repeat (first | apply zl | apply zm | apply zn)); exact HO_366000.out) : p := h
theorem zH117 {p : Prop} (h : p := by (with_reducible repeat (first | apply zl | apply zm | apply zn)); exact HO_379000.out) : p := h
theorem zH118 {p : Prop} (h : p := by (with_reducible repeat (first | apply zl | apply zm | apply zn)); exact HO_0.out) : p := h
theorem zH119 {p : Prop} (h : p := by have := HJ2.out; have := HK2.out; first | omega | exact Nat.le_refl _) : p := h
theorem zH120 {p : Prop} (h : p := by repeat (first | exact Drawn0.refl _ | apply Drawn0.step)) : p := h
theorem zH121 {p : Prop} (h : p := by have := HJ5.out; first | omega | exact Nat.le_refl _) : p := h
theorem zH122 {p : Prop} (h : p := by have := HK1.out; first | omega | exact Nat.le_refl _) : p := h
theorem zH123 {p : Prop} (h : p := by have := HK1.out; have := HJ4.out; omega) : p := h
theorem zH124 {p : Prop} (h : p := by first | (go_simp; done) | (go_simp; rfl)) : p := h
theorem zH125 {p : Prop} (h : p := by first | omega | exact Nat.le_refl _) : p := h
theorem zH126 {p : Prop} (h : p := by exact (Kd.R_reads' HO_379000.out).2.1) : p := h
theorem zH127 {p : Prop} (h : p := by have := HK1.out; omega) : p := h
theorem zH128 {p : Prop} (h : p := by exact HC0.out) : p := h
theorem zH129 {p : Prop} (h : p := by exact HC1.out) : p := h
theorem zK130 {p : Prop} (h : p := by (with_reducible repeat (first | refine zc ?_ _ | refine ze ?_ | refine zb ?_ _)); refine zs ?_ NB202_203.out _; (with_reducible repeat (first | refine zc ?_ _ | refine ze ?_ | refine zb ?_ _)); refine zw (cs := #[.slice none 0 0, .int .i64 0, .int .i64 0]) ?_ 2 _ rfl; (with_reducible repeat (first | refine zc ?_ _ | refine ze ?_ | refine zb ?_ _)); refine zw (cs := #[.slice none 0 0, .int .i64 0, .int .i64 0]) ?_ 1 _ rfl; (with_reducible repeat (first | refine zc ?_ _ | refine ze ?_ | refine zb ?_ _)); refine zw (cs := #[.slice none 0 0, .int .i64 0, .int .i64 0]) ?_ 0 _ rfl; (with_reducible repeat (first | refine zc ?_ _ | refine ze ?_ | refine zb ?_ _)); exact BK202.out) : p := h
theorem zK131 {p : Prop} (h : p := by (with_reducible repeat (first | refine zc ?_ _ | refine ze ?_ | refine zb ?_ _)); refine zw (cs := #[.string ((rd_T58 l0 x19_2).f0), .int .i64 ((rd_T58 l0 x19_2).f1), .slice none 0 0]) ?_ 2 _ rfl; (with_reducible repeat (first | refine zc ?_ _ | refine ze ?_ | refine zb ?_ _)); refine zw (cs := #[.string ((rd_T58 l0 x19_2).f0), .int .i64 0, .slice none 0 0]) ?_ 1 _ rfl; (with_reducible repeat (first | refine zc ?_ _ | refine ze ?_ | refine zb ?_ _)); refine zw (cs := #[.string (⟨#[]⟩ : ByteArray), .int .i64 0, .slice none 0 0]) ?_ 0 _ rfl; (with_reducible repeat (first | refine zc ?_ _ | refine ze ?_ | refine zb ?_ _)); exact BK134.out) : p := h
theorem zK132 {p : Prop} (h : p := by (with_reducible repeat (first | refine zc ?_ _ | refine ze ?_ | refine zb ?_ _)); refine zw (cs := #[.slice Ao100 t401.length co100, .int .i64 t404, .int .i64 0]) ?_ 2 _ rfl; (with_reducible repeat (first | refine zc ?_ _ | refine ze ?_ | refine zb ?_ _)); refine zw (cs := #[.slice Ao100 t401.length co100, .int .i64 0, .int .i64 0]) ?_ 1 _ rfl; (with_reducible repeat (first | refine zc ?_ _ | refine ze ?_ | refine zb ?_ _)); refine zw (cs := #[.slice none 0 0, .int .i64 0, .int .i64 0]) ?_ 0 _ rfl; (with_reducible repeat (first | refine zc ?_ _ | refine ze ?_ | refine zb ?_ _)); exact BK407.out) : p := h
theorem zK133 {p : Prop} (h : p := by (with_reducible repeat (first | refine zc ?_ _ | refine ze ?_ | refine zb ?_ _)); refine zw (cs := #[.slice Ao33 t372.length co33, .int .i64 t375, .int .i64 0]) ?_ 2 _ rfl; (with_reducible repeat (first | refine zc ?_ _ | refine ze ?_ | refine zb ?_ _)); refine zw (cs := #[.slice Ao33 t372.length co33, .int .i64 0, .int .i64 0]) ?_ 1 _ rfl; (with_reducible repeat (first | refine zc ?_ _ | refine ze ?_ | refine zb ?_ _)); refine zw (cs := #[.slice none 0 0, .int .i64 0, .int .i64 0]) ?_ 0 _ rfl; (with_reducible repeat (first | refine zc ?_ _ | refine ze ?_ | refine zb ?_ _)); exact BK378.out) : p := h
theorem zK134 {p : Prop} (h : p := by (with_reducible repeat (first | refine zc ?_ _ | refine ze ?_ | refine zb ?_ _)); refine zw (cs := #[.slice none 0 0, .int .i64 0, .int .i64 0]) ?_ 2 _ rfl; (with_reducible repeat (first | refine zc ?_ _ | refine ze ?_ | refine zb ?_ _)); refine zw (cs := #[.slice none 0 0, .int .i64 0, .int .i64 0]) ?_ 1 _ rfl; (with_reducible repeat (first | refine zc ?_ _ | refine ze ?_ | refine zb ?_ _)); refine zw (cs := #[.slice none 0 0, .int .i64 0, .int .i64 0]) ?_ 0 _ rfl; (with_reducible repeat (first | refine zc ?_ _ | refine ze ?_ | refine zb ?_ _)); exact BK198.out) : p := h
theorem zK135 {p : Prop} (h : p := by (with_reducible repeat (first | refine zc ?_ _ | refine ze ?_ | refine zb ?_ _)); refine zw (cs := #[.slice none 0 0, .int .i64 0, .int .i64 0]) ?_ 2 _ rfl; (with_reducible repeat (first | refine zc ?_ _ | refine ze ?_ | refine zb ?_ _)); refine zw (cs := #[.slice none 0 0, .int .i64 0, .int .i64 0]) ?_ 1 _ rfl; (with_reducible repeat (first | refine zc ?_ _ | refine ze ?_ | refine zb ?_ _)); refine zw (cs := #[.slice none 0 0, .int .i64 0, .int .i64 0]) ?_ 0 _ rfl; (with_reducible repeat (first | refine zc ?_ _ | refine ze ?_ | refine zb ?_ _)); exact BK277.out) : p := h
theorem zK136 {p : Prop} (h : p := by (with_reducible repeat (first | refine zc ?_ _ | refine ze ?_ | refine zb ?_ _)); refine zw (cs := #[.slice none 0 0, .int .i64 0, .int .i64 0]) ?_ 2 _ rfl; (with_reducible repeat (first | refine zc ?_ _ | refine ze ?_ | refine zb ?_ _)); refine zw (cs := #[.slice none 0 0, .int .i64 0, .int .i64 0]) ?_ 1 _ rfl; (with_reducible repeat (first | refine zc ?_ _ | refine ze ?_ | refine zb ?_ _)); refine zw (cs := #[.slice none 0 0, .int .i64 0, .int .i64 0]) ?_ 0 _ rfl; (with_reducible repeat (first | refine zc ?_ _ | refine ze ?_ | refine zb ?_ _)); exact BK230.out) : p := h
theorem zK137 {p : Prop} (h : p := by (with_reducible repeat (first | refine zc ?_ _ | refine ze ?_ | refine zb ?_ _)); refine zw (cs := #[.bool false]) ?_ 0 _ rfl; (with_reducible repeat (first | refine zc ?_ _ | refine ze ?_ | refine zb ?_ _)); refine zs ?_ NB203_202.out _; (with_reducible repeat (first | refine zc ?_ _ | refine ze ?_ | refine zb ?_ _)); refine zs ?_ NB203_202.out _; (with_reducible repeat (first | refine zc ?_ _ | refine ze ?_ | refine zb ?_ _)); refine zs ?_ NB203_202.out _; (with_reducible repeat (first | refine zc ?_ _ | refine ze ?_ | refine zb ?_ _)); exact BK203.out) : p := h
theorem zK138 {p : Prop} (h : p := by (with_reducible repeat (first | refine zc ?_ _ | refine ze ?_ | refine zb ?_ _)); refine zs ?_ NB196_203.out _; (with_reducible repeat (first | refine zc ?_ _ | refine ze ?_ | refine zb ?_ _)); refine zs ?_ NB196_202.out _; (with_reducible repeat (first | refine zc ?_ _ | refine ze ?_ | refine zb ?_ _)); refine zs ?_ NB196_202.out _; (with_reducible repeat (first | refine zc ?_ _ | refine ze ?_ | refine zb ?_ _)); refine zs ?_ NB196_202.out _; (with_reducible repeat (first | refine zc ?_ _ | refine ze ?_ | refine zb ?_ _)); exact BK196.out) : p := h
theorem zK139 {p : Prop} (h : p := by (with_reducible repeat (first | refine zc ?_ _ | refine ze ?_ | refine zb ?_ _)); refine zs ?_ NB197_203.out _; (with_reducible repeat (first | refine zc ?_ _ | refine ze ?_ | refine zb ?_ _)); refine zs ?_ NB197_202.out _; (with_reducible repeat (first | refine zc ?_ _ | refine ze ?_ | refine zb ?_ _)); refine zs ?_ NB197_202.out _; (with_reducible repeat (first | refine zc ?_ _ | refine ze ?_ | refine zb ?_ _)); refine zs ?_ NB197_202.out _; (with_reducible repeat (first | refine zc ?_ _ | refine ze ?_ | refine zb ?_ _)); exact BK197.out) : p := h
theorem zK140 {p : Prop} (h : p := by (with_reducible repeat (first | refine zc ?_ _ | refine ze ?_ | refine zb ?_ _)); refine zs ?_ NB198_203.out _; (with_reducible repeat (first | refine zc ?_ _ | refine ze ?_ | refine zb ?_ _)); refine zs ?_ NB198_202.out _; (with_reducible repeat (first | refine zc ?_ _ | refine ze ?_ | refine zb ?_ _)); refine zs ?_ NB198_202.out _; (with_reducible repeat (first | refine zc ?_ _ | refine ze ?_ | refine zb ?_ _)); refine zs ?_ NB198_202.out _; (with_reducible repeat (first | refine zc ?_ _ | refine ze ?_ | refine zb ?_ _)); exact BK198.out) : p := h
theorem zK141 {p : Prop} (h : p := by (with_reducible repeat (first | refine zc ?_ _ | refine ze ?_ | refine zb ?_ _)); refine zs ?_ NB365_378.out _; (with_reducible repeat (first | refine zc ?_ _ | refine ze ?_ | refine zb ?_ _)); refine zs ?_ NB365_378.out _; (with_reducible repeat (first | refine zc ?_ _ | refine ze ?_ | refine zb ?_ _)); refine zs ?_ NB365_378.out _; (with_reducible repeat (first | refine zc ?_ _ | refine ze ?_ | refine zb ?_ _)); exact BK365.out) : p := h
theorem zK142 {p : Prop} (h : p := by (with_reducible repeat (first | refine zc ?_ _ | refine ze ?_ | refine zb ?_ _)); refine zs ?_ NB365_407.out _; (with_reducible repeat (first | refine zc ?_ _ | refine ze ?_ | refine zb ?_ _)); refine zs ?_ NB365_407.out _; (with_reducible repeat (first | refine zc ?_ _ | refine ze ?_ | refine zb ?_ _)); refine zs ?_ NB365_407.out _; (with_reducible repeat (first | refine zc ?_ _ | refine ze ?_ | refine zb ?_ _)); exact BK365.out) : p := h
theorem zK143 {p : Prop} (h : p := by (with_reducible repeat (first | refine zc ?_ _ | refine ze ?_ | refine zb ?_ _)); refine zs ?_ NB378_407.out _; (with_reducible repeat (first | refine zc ?_ _ | refine ze ?_ | refine zb ?_ _)); refine zs ?_ NB378_407.out _; (with_reducible repeat (first | refine zc ?_ _ | refine ze ?_ | refine zb ?_ _)); refine zs ?_ NB378_407.out _; (with_reducible repeat (first | refine zc ?_ _ | refine ze ?_ | refine zb ?_ _)); exact BK378.out) : p := h
theorem zK144 {p : Prop} (h : p := by (with_reducible repeat (first | refine zc ?_ _ | refine ze ?_ | refine zb ?_ _)); refine zs ?_ NB1_176.out _; (with_reducible repeat (first | refine zc ?_ _ | refine ze ?_ | refine zb ?_ _)); refine zs ?_ NB1_176.out _; (with_reducible repeat (first | refine zc ?_ _ | refine ze ?_ | refine zb ?_ _)); refine zs ?_ NB1_176.out _; (with_reducible repeat (first | refine zc ?_ _ | refine ze ?_ | refine zb ?_ _)); exact BK1.out) : p := h
theorem zK145 {p : Prop} (h : p := by (with_reducible repeat (first | refine zc ?_ _ | refine ze ?_ | refine zb ?_ _)); refine zs ?_ NB2_176.out _; (with_reducible repeat (first | refine zc ?_ _ | refine ze ?_ | refine zb ?_ _)); refine zs ?_ NB2_176.out _; (with_reducible repeat (first | refine zc ?_ _ | refine ze ?_ | refine zb ?_ _)); refine zs ?_ NB2_176.out _; (with_reducible repeat (first | refine zc ?_ _ | refine ze ?_ | refine zb ?_ _)); exact BK2.out) : p := h
theorem zK146 {p : Prop} (h : p := by (with_reducible repeat (first | refine zc ?_ _ | refine ze ?_ | refine zb ?_ _)); refine zs ?_ NB3_176.out _; (with_reducible repeat (first | refine zc ?_ _ | refine ze ?_ | refine zb ?_ _)); refine zs ?_ NB3_176.out _; (with_reducible repeat (first | refine zc ?_ _ | refine ze ?_ | refine zb ?_ _)); refine zs ?_ NB3_176.out _; (with_reducible repeat (first | refine zc ?_ _ | refine ze ?_ | refine zb ?_ _)); exact BK3.out) : p := h
theorem zK147 {p : Prop} (h : p := by (with_reducible repeat (first | refine zc ?_ _ | refine ze ?_ | refine zb ?_ _)); refine zs ?_ NB4_176.out _; (with_reducible repeat (first | refine zc ?_ _ | refine ze ?_ | refine zb ?_ _)); refine zs ?_ NB4_176.out _; (with_reducible repeat (first | refine zc ?_ _ | refine ze ?_ | refine zb ?_ _)); refine zs ?_ NB4_176.out _; (with_reducible repeat (first | refine zc ?_ _ | refine ze ?_ | refine zb ?_ _)); exact BK4.out) : p := h
theorem zK148 {p : Prop} (h : p := by (with_reducible repeat (first | refine zc ?_ _ | refine ze ?_ | refine zb ?_ _)); refine zs ?_ NB5_176.out _; (with_reducible repeat (first | refine zc ?_ _ | refine ze ?_ | refine zb ?_ _)); refine zs ?_ NB5_176.out _; (with_reducible repeat (first | refine zc ?_ _ | refine ze ?_ | refine zb ?_ _)); refine zs ?_ NB5_176.out _; (with_reducible repeat (first | refine zc ?_ _ | refine ze ?_ | refine zb ?_ _)); exact BK5.out) : p := h
theorem zK149 {p : Prop} (h : p := by (with_reducible repeat (first | apply zl | apply zm | apply zn)); exact (zx (zr (p := ⟨gb134, 2, none⟩) (zr (p := ⟨gb134, 1, none⟩) (zr (p := ⟨gb134, 0, none⟩) (zaa HO_5.out BK134.out zG107) (fun _ hk => hk.2) (.string ((rd_T58 l0 x19_2).f0))) (fun _ hk => hk.2) (.int .i64 ((rd_T58 l0 x19_2).f1))) (fun _ hk => hk.2) (.slice A133_2 ((rd_T58 l0 x19_2).f2).length c133_2)) (fun _ h_ => h_.1))) : p := h
theorem zK150 {p : Prop} (h : p := by (with_reducible repeat (first | apply zad | apply zae | apply zag)); exact (zaz (zar (p := ⟨gb407, 2, none⟩) (zar (p := ⟨gb407, 1, none⟩) (zar (p := ⟨gb407, 0, none⟩) (zbg HO397.out BK407.out zG107) (fun _ hk => hk.2) (.slice Ao100 t401.length co100)) (fun _ hk => hk.2) (.int .i64 t404)) (fun _ hk => hk.2) (.int .i64 t405)) (fun _ h_ => h_.1))) : p := h
theorem zK151 {p : Prop} (h : p := by (with_reducible repeat (first | apply zad | apply zae | apply zag)); exact (zaz (zar (p := ⟨gb365, 2, none⟩) (zar (p := ⟨gb365, 1, none⟩) (zar (p := ⟨gb365, 0, none⟩) (zbg HO355.out BK365.out zG107) (fun _ hk => hk.2) (.slice Ao25 t359.length co25)) (fun _ hk => hk.2) (.int .i64 t362)) (fun _ hk => hk.2) (.int .i64 t363)) (fun _ h_ => h_.1))) : p := h
theorem zK152 {p : Prop} (h : p := by (with_reducible repeat (first | apply zad | apply zae | apply zag)); exact (zaz (zar (p := ⟨gb378, 2, none⟩) (zar (p := ⟨gb378, 1, none⟩) (zar (p := ⟨gb378, 0, none⟩) (zbg HO355.out BK378.out zG107) (fun _ hk => hk.2) (.slice Ao33 t372.length co33)) (fun _ hk => hk.2) (.int .i64 t375)) (fun _ hk => hk.2) (.int .i64 t376)) (fun _ h_ => h_.1))) : p := h
theorem zK153 {p : Prop} (h : p := by (with_reducible repeat (first | apply zad | apply zae | apply zag)); exact (zaz (zar (p := ⟨gb378, 2, none⟩) (zar (p := ⟨gb378, 1, none⟩) (zar (p := ⟨gb378, 0, none⟩) (zbg HO368.out BK378.out zG107) (fun _ hk => hk.2) (.slice Ao33 t372.length co33)) (fun _ hk => hk.2) (.int .i64 t375)) (fun _ hk => hk.2) (.int .i64 t376)) (fun _ h_ => h_.1))) : p := h
theorem zK154 {p : Prop} (h : p := by (with_reducible repeat (first | apply zl | apply zm | apply zn)); exact (zx (zr (p := ⟨gb407, 2, none⟩) (zr (p := ⟨gb407, 1, none⟩) (zr (p := ⟨gb407, 0, none⟩) (zaa HO_366000.out BK407.out zG107) (fun _ hk => hk.2) (.slice Ao100 t401.length co100)) (fun _ hk => hk.2) (.int .i64 t404)) (fun _ hk => hk.2) (.int .i64 t405)) (fun _ h_ => h_.1))) : p := h
theorem zK155 {p : Prop} (h : p := by (with_reducible repeat (first | apply zl | apply zm | apply zn)); exact (zx (zr (p := ⟨gb407, 2, none⟩) (zr (p := ⟨gb407, 1, none⟩) (zr (p := ⟨gb407, 0, none⟩) (zaa HO_379000.out BK407.out zG107) (fun _ hk => hk.2) (.slice Ao100 t401.length co100)) (fun _ hk => hk.2) (.int .i64 t404)) (fun _ hk => hk.2) (.int .i64 t405)) (fun _ h_ => h_.1))) : p := h
theorem zK156 {p : Prop} (h : p := by (with_reducible repeat (first | apply zl | apply zm | apply zn)); exact (zx (zr (p := ⟨gb407, 2, none⟩) (zr (p := ⟨gb407, 1, none⟩) (zr (p := ⟨gb407, 0, none⟩) (zaa HO400.out BK407.out zG107) (fun _ hk => hk.2) (.slice Ao100 t401.length co100)) (fun _ hk => hk.2) (.int .i64 t404)) (fun _ hk => hk.2) (.int .i64 t405)) (fun _ h_ => h_.1))) : p := h
theorem zK157 {p : Prop} (h : p := by (with_reducible repeat (first | apply zl | apply zm | apply zn)); exact (zx (zr (p := ⟨gb407, 2, none⟩) (zr (p := ⟨gb407, 1, none⟩) (zr (p := ⟨gb407, 0, none⟩) (zaa HO403.out BK407.out zG107) (fun _ hk => hk.2) (.slice Ao100 t401.length co100)) (fun _ hk => hk.2) (.int .i64 t404)) (fun _ hk => hk.2) (.int .i64 t405)) (fun _ h_ => h_.1))) : p := h
theorem zK158 {p : Prop} (h : p := by (with_reducible repeat (first | apply zl | apply zm | apply zn)); exact (zx (zr (p := ⟨gb176, 2, none⟩) (zr (p := ⟨gb176, 1, none⟩) (zr (p := ⟨gb176, 0, none⟩) (zaa HO172.out BK176.out zG107) (fun _ hk => hk.2) (.slice Ao24 t170.length co24)) (fun _ hk => hk.2) (.int .i64 t173)) (fun _ hk => hk.2) (.int .i64 t174)) (fun _ h_ => h_.1))) : p := h
theorem zK159 {p : Prop} (h : p := by (with_reducible repeat (first | apply zl | apply zm | apply zn)); exact (zx (zr (p := ⟨gb176, 2, none⟩) (zr (p := ⟨gb176, 1, none⟩) (zr (p := ⟨gb176, 0, none⟩) (zaa HO4_0.out BK176.out zG107) (fun _ hk => hk.2) (.slice Ao24 t170.length co24)) (fun _ hk => hk.2) (.int .i64 t173)) (fun _ hk => hk.2) (.int .i64 t174)) (fun _ h_ => h_.1))) : p := h
theorem zK160 {p : Prop} (h : p := by (with_reducible repeat (first | apply zl | apply zm | apply zn)); exact (zx (zr (p := ⟨gb176, 2, none⟩) (zr (p := ⟨gb176, 1, none⟩) (zr (p := ⟨gb176, 0, none⟩) (zaa HO172.out BK176.out zG107) (fun _ hk => hk.2) (.slice Ao52 t170.length co52)) (fun _ hk => hk.2) (.int .i64 t173)) (fun _ hk => hk.2) (.int .i64 t174)) (fun _ h_ => h_.1))) : p := h
theorem zK161 {p : Prop} (h : p := by (with_reducible repeat (first | apply zl | apply zm | apply zn)); exact (zx (zr (p := ⟨gb176, 2, none⟩) (zr (p := ⟨gb176, 1, none⟩) (zr (p := ⟨gb176, 0, none⟩) (zaa HO4_0.out BK176.out zG107) (fun _ hk => hk.2) (.slice Ao52 t170.length co52)) (fun _ hk => hk.2) (.int .i64 t173)) (fun _ hk => hk.2) (.int .i64 t174)) (fun _ h_ => h_.1))) : p := h
theorem zK162 {p : Prop} (h : p := by (with_reducible repeat (first | apply zl | apply zm | apply zn)); exact (zx (zr (p := ⟨gb365, 2, none⟩) (zr (p := ⟨gb365, 1, none⟩) (zr (p := ⟨gb365, 0, none⟩) (zaa HO358.out BK365.out zG107) (fun _ hk => hk.2) (.slice Ao25 t359.length co25)) (fun _ hk => hk.2) (.int .i64 t362)) (fun _ hk => hk.2) (.int .i64 t363)) (fun _ h_ => h_.1))) : p := h
theorem zK163 {p : Prop} (h : p := by (with_reducible repeat (first | apply zl | apply zm | apply zn)); exact (zx (zr (p := ⟨gb378, 2, none⟩) (zr (p := ⟨gb378, 1, none⟩) (zr (p := ⟨gb378, 0, none⟩) (zaa HO358.out BK378.out zG107) (fun _ hk => hk.2) (.slice Ao33 t372.length co33)) (fun _ hk => hk.2) (.int .i64 t375)) (fun _ hk => hk.2) (.int .i64 t376)) (fun _ h_ => h_.1))) : p := h
theorem zK164 {p : Prop} (h : p := by (with_reducible repeat (first | apply zl | apply zm | apply zn)); exact (zx (zr (p := ⟨gb378, 2, none⟩) (zr (p := ⟨gb378, 1, none⟩) (zr (p := ⟨gb378, 0, none⟩) (zaa HO361.out BK378.out zG107) (fun _ hk => hk.2) (.slice Ao33 t372.length co33)) (fun _ hk => hk.2) (.int .i64 t375)) (fun _ hk => hk.2) (.int .i64 t376)) (fun _ h_ => h_.1))) : p := h
theorem zK165 {p : Prop} (h : p := by (with_reducible repeat (first | apply zl | apply zm | apply zn)); exact (zx (zr (p := ⟨gb378, 2, none⟩) (zr (p := ⟨gb378, 1, none⟩) (zr (p := ⟨gb378, 0, none⟩) (zaa HO371.out BK378.out zG107) (fun _ hk => hk.2) (.slice Ao33 t372.length co33)) (fun _ hk => hk.2) (.int .i64 t375)) (fun _ hk => hk.2) (.int .i64 t376)) (fun _ h_ => h_.1))) : p := h
theorem zK166 {p : Prop} (h : p := by (with_reducible repeat (first | apply zl | apply zm | apply zn)); exact (zx (zr (p := ⟨gb378, 2, none⟩) (zr (p := ⟨gb378, 1, none⟩) (zr (p := ⟨gb378, 0, none⟩) (zaa HO374.out BK378.out zG107) (fun _ hk => hk.2) (.slice Ao33 t372.length co33)) (fun _ hk => hk.2) (.int .i64 t375)) (fun _ hk => hk.2) (.int .i64 t376)) (fun _ h_ => h_.1))) : p := h
theorem zK167 {p : Prop} (h : p := by first | exact HK.out.1 | exact (show Kept w _ (fun k_ => (P0_2_ k_) ∨ k_ = gi0) from by repeat (first | (with_reducible first | exact HK.out | apply Kept.alloc | apply Kept.drewN | apply Kept.drew | refine Kept.setCell ?_ (.inl (Or.inr rfl)) _ | refine Kept.setCell ?_ (.inr GW258.out) _) | exact HK.out)).1) : p := h
theorem zK168 {p : Prop} (h : p := by (try simp only [List.map_toArray, List.map_cons, List.map_nil]); first | done | (rw [show (l2.take (x16_1 : Int).toNat).length = x16_1.toNat from (by rw [List.length_take]; have h_ : (x16_1 : Int) ≤ (l2.length : Int) := zO; omega)] <;> rfl) | rfl | (simp only [List.length_drop, List.length_take]; rfl)) : p := h
theorem zK169 {p : Prop} (h : p := by (try simp only [List.map_toArray, List.map_cons, List.map_nil]); first | done | (rw [show (l0.take (x7_1 : Int).toNat).length = x7_1.toNat from (by rw [List.length_take]; have h_ : (x7_1 : Int) ≤ (l0.length : Int) := zO; omega)] <;> rfl) | rfl | (simp only [List.length_drop, List.length_take]; rfl)) : p := h
theorem zK170 {p : Prop} (h : p := by rw [hw]; exact (by repeat (first | (with_reducible first | exact HB.out | apply zh | apply zd | apply zg | refine zf ?_ GE196.out | refine zf ?_ GE197.out | refine zf ?_ GE198.out | refine zf ?_ GE202.out | refine zf ?_ GE203.out | refine zf ?_ GE204.out) | exact HB.out))) : p := h
theorem zK171 {p : Prop} (h : p := by repeat (first | (with_reducible first | exact HK.out | apply Kept.alloc | apply Kept.drewN | apply Kept.drew | refine Kept.setCell ?_ (.inl (Or.inl (Or.inr rfl))) _ | refine Kept.setCell ?_ (.inl (Or.inr rfl)) _ | refine Kept.setCell ?_ (.inr GW176.out) _) | exact HK.out)) : p := h
theorem zK172 {p : Prop} (h : p := by repeat (first | (with_reducible first | exact HB.out | apply zh | apply zd | apply zg | refine zf ?_ GE1.out | refine zf ?_ GE2.out | refine zf ?_ GE3.out | refine zf ?_ GE4.out | refine zf ?_ GE5.out | refine zf ?_ GE176.out) | exact HB.out)) : p := h
theorem zK173 {p : Prop} (h : p := by rw [hw]; exact (by (with_reducible repeat (first | refine zc ?_ _ | refine ze ?_ | refine zb ?_ _)); refine zw (cs := #[.nilFunc]) ?_ 0 _ rfl; (with_reducible repeat (first | refine zc ?_ _ | refine ze ?_ | refine zb ?_ _)); exact BK204.out)) : p := h
theorem zK174 {p : Prop} (h : p := by rw [hw]; exact (by (with_reducible repeat (first | refine zc ?_ _ | refine ze ?_ | refine zb ?_ _)); refine zs ?_ NB196_204.out _; (with_reducible repeat (first | refine zc ?_ _ | refine ze ?_ | refine zb ?_ _)); exact BK196.out)) : p := h
theorem zK175 {p : Prop} (h : p := by rw [hw]; exact (by (with_reducible repeat (first | refine zc ?_ _ | refine ze ?_ | refine zb ?_ _)); refine zs ?_ NB197_204.out _; (with_reducible repeat (first | refine zc ?_ _ | refine ze ?_ | refine zb ?_ _)); exact BK197.out)) : p := h
theorem zK176 {p : Prop} (h : p := by rw [hw]; exact (by (with_reducible repeat (first | refine zc ?_ _ | refine ze ?_ | refine zb ?_ _)); refine zs ?_ NB198_204.out _; (with_reducible repeat (first | refine zc ?_ _ | refine ze ?_ | refine zb ?_ _)); exact BK198.out)) : p := h
theorem zK177 {p : Prop} (h : p := by rw [hw]; exact (by (with_reducible repeat (first | refine zc ?_ _ | refine ze ?_ | refine zb ?_ _)); refine zs ?_ NB202_204.out _; (with_reducible repeat (first | refine zc ?_ _ | refine ze ?_ | refine zb ?_ _)); exact BK202.out)) : p := h
theorem zK178 {p : Prop} (h : p := by rw [hw]; exact (by (with_reducible repeat (first | refine zc ?_ _ | refine ze ?_ | refine zb ?_ _)); refine zs ?_ NB203_204.out _; (with_reducible repeat (first | refine zc ?_ _ | refine ze ?_ | refine zb ?_ _)); exact BK203.out)) : p := h
theorem zK179 {p : Prop} (h : p := by repeat (first | (with_reducible first | exact HB.out | apply zh | apply zd | apply zg | refine zf ?_ GE196.out | refine zf ?_ GE197.out | refine zf ?_ GE198.out | refine zf ?_ GE202.out | refine zf ?_ GE203.out) | exact HB.out)) : p := h
theorem zK180 {p : Prop} (h : p := by (try simp only [List.map_toArray, List.map_cons, List.map_nil]); first | done | (rw [show t393.length = t372.length from (Kd.R_reads' HO_379000.out).1.symm] <;> rfl) | rfl | (simp only [List.length_drop, List.length_take]; rfl)) : p := h
theorem zK181 {p : Prop} (h : p := by repeat (first | (with_reducible first | exact HB.out | apply zh | apply zd | apply zg | refine zf ?_ GE196.out | refine zf ?_ GE197.out | refine zf ?_ GE198.out | refine zf ?_ GE202.out) | exact HB.out)) : p := h
theorem zK182 {p : Prop} (h : p := by repeat (first | (with_reducible first | exact HB.out | apply zh | apply zd | apply zg | refine zf ?_ GE365.out | refine zf ?_ GE378.out | refine zf ?_ GE407.out) | exact HB.out)) : p := h
theorem zK183 {p : Prop} (h : p := by repeat (first | (with_reducible first | exact HB.out | apply zh | apply zd | apply zg | refine zf ?_ GE306.out | refine zf ?_ GE307.out | refine zf ?_ GE308.out) | exact HB.out)) : p := h
theorem zK184 {p : Prop} (h : p := by repeat (first | (with_reducible exact HR178_2.out) | (with_reducible refine zu ?_ _) | (with_reducible refine zv ?_ _) | (with_reducible refine zy ?_) | exact HR178_2.out)) : p := h
theorem zK185 {p : Prop} (h : p := by repeat (first | (with_reducible exact HR259_2.out) | (with_reducible refine zu ?_ _) | (with_reducible refine zv ?_ _) | (with_reducible refine zy ?_) | exact HR259_2.out)) : p := h
theorem zK186 {p : Prop} (h : p := by repeat (first | (with_reducible first | exact HB.out | apply zh | apply zd | apply zg | refine zf ?_ GE196.out | refine zf ?_ GE197.out) | exact HB.out)) : p := h
theorem zK187 {p : Prop} (h : p := by repeat (first | (with_reducible first | exact HB.out | apply zh | apply zd | apply zg | refine zf ?_ GE332.out | refine zf ?_ GE333.out) | exact HB.out)) : p := h
theorem zK188 {p : Prop} (h : p := by repeat (first | (with_reducible first | exact HB.out | apply zh | apply zd | apply zg | refine zf ?_ GE156.out | refine zf ?_ GE160.out) | exact HB.out)) : p := h
theorem zK189 {p : Prop} (h : p := by repeat (first | (with_reducible first | exact HB.out | apply zh | apply zd | apply zg | refine zf ?_ GE277.out | refine zf ?_ GE279.out) | exact HB.out)) : p := h
theorem zK190 {p : Prop} (h : p := by repeat (first | (with_reducible first | exact HB.out | apply zh | apply zd | apply zg | refine zf ?_ GE296.out | refine zf ?_ GE297.out) | exact HB.out)) : p := h
theorem zK191 {p : Prop} (h : p := by repeat (first | (with_reducible first | exact HB.out | apply zh | apply zd | apply zg | refine zf ?_ GE306.out | refine zf ?_ GE307.out) | exact HB.out)) : p := h
theorem zK192 {p : Prop} (h : p := by repeat (first | (with_reducible first | exact HB.out | apply zh | apply zd | apply zg | refine zf ?_ GE134.out) | exact HB.out)) : p := h
theorem zK193 {p : Prop} (h : p := by repeat (first | (with_reducible first | exact HB.out | apply zh | apply zd | apply zg | refine zf ?_ GE145.out) | exact HB.out)) : p := h
theorem zK194 {p : Prop} (h : p := by repeat (first | (with_reducible first | exact HB.out | apply zh | apply zd | apply zg | refine zf ?_ GE196.out) | exact HB.out)) : p := h
theorem zK195 {p : Prop} (h : p := by repeat (first | (with_reducible first | exact HB.out | apply zh | apply zd | apply zg | refine zf ?_ GE327.out) | exact HB.out)) : p := h
theorem zK196 {p : Prop} (h : p := by repeat (first | (with_reducible first | exact HB.out | apply zh | apply zd | apply zg | refine zf ?_ GE156.out) | exact HB.out)) : p := h
theorem zK197 {p : Prop} (h : p := by repeat (first | (with_reducible first | exact HB.out | apply zh | apply zd | apply zg | refine zf ?_ GE168.out) | exact HB.out)) : p := h
theorem zK198 {p : Prop} (h : p := by repeat (first | (with_reducible first | exact HB.out | apply zh | apply zd | apply zg | refine zf ?_ GE226.out) | exact HB.out)) : p := h
theorem zK199 {p : Prop} (h : p := by repeat (first | (with_reducible first | exact HB.out | apply zh | apply zd | apply zg | refine zf ?_ GE122.out) | exact HB.out)) : p := h
theorem zK200 {p : Prop} (h : p := by repeat (first | (with_reducible first | exact HB.out | apply zh | apply zd | apply zg | refine zf ?_ GE277.out) | exact HB.out)) : p := h
theorem zK201 {p : Prop} (h : p := by repeat (first | (with_reducible first | exact HB.out | apply zh | apply zd | apply zg | refine zf ?_ GE292.out) | exact HB.out)) : p := h
theorem zK202 {p : Prop} (h : p := by repeat (first | (with_reducible first | exact HB.out | apply zh | apply zd | apply zg | refine zf ?_ GE296.out) | exact HB.out)) : p := h
theorem zK203 {p : Prop} (h : p := by repeat (first | (with_reducible first | exact HB.out | apply zh | apply zd | apply zg | refine zf ?_ GE306.out) | exact HB.out)) : p := h
theorem zK204 {p : Prop} (h : p := by repeat (first | (with_reducible first | exact HB.out | apply zh | apply zd | apply zg | refine zf ?_ GE230.out) | exact HB.out)) : p := h
theorem zK205 {p : Prop} (h : p := by repeat (first | (with_reducible first | exact HB.out | apply zh | apply zd | apply zg | refine zf ?_ GE28.out) | exact HB.out)) : p := h
theorem zK206 {p : Prop} (h : p := by repeat (first | (with_reducible first | exact HB.out | apply zh | apply zd | apply zg | refine zf ?_ GE1.out) | exact HB.out)) : p := h
theorem zK207 {p : Prop} (h : p := by repeat (first | (with_reducible first | exact HK.out | apply Kept.alloc | apply Kept.drewN | apply Kept.drew) | exact HK.out)) : p := h
theorem zK208 {p : Prop} (h : p := by (with_reducible repeat (first | apply zl | apply zm | apply zn)); exact zx HO183.out (fun _ hk => ⟨hk.1.1.1, ⟨hk.2, hk.1.2⟩⟩)) : p := h
theorem zK209 {p : Prop} (h : p := by (with_reducible repeat (first | apply zl | apply zm | apply zn)); exact zx HO186.out (fun _ hk => ⟨hk.1.1.1, ⟨hk.2, hk.1.2⟩⟩)) : p := h
theorem zK210 {p : Prop} (h : p := by (with_reducible repeat (first | apply zl | apply zm | apply zn)); exact zx HO254.out (fun _ hk => ⟨hk.1.1, hk.2⟩)) : p := h
theorem zK211 {p : Prop} (h : p := by (with_reducible repeat (first | refine zc ?_ _ | refine ze ?_ | refine zb ?_ _)); exact BK145.out) : p := h
theorem zK212 {p : Prop} (h : p := by (with_reducible repeat (first | refine zc ?_ _ | refine ze ?_ | refine zb ?_ _)); exact BK202.out) : p := h
theorem zK213 {p : Prop} (h : p := by (with_reducible repeat (first | refine zc ?_ _ | refine ze ?_ | refine zb ?_ _)); exact BK324.out) : p := h
theorem zK214 {p : Prop} (h : p := by (with_reducible repeat (first | refine zc ?_ _ | refine ze ?_ | refine zb ?_ _)); exact BK327.out) : p := h
theorem zK215 {p : Prop} (h : p := by (with_reducible repeat (first | refine zc ?_ _ | refine ze ?_ | refine zb ?_ _)); exact BK156.out) : p := h
theorem zK216 {p : Prop} (h : p := by (with_reducible repeat (first | refine zc ?_ _ | refine ze ?_ | refine zb ?_ _)); exact BK160.out) : p := h
theorem zK217 {p : Prop} (h : p := by (with_reducible repeat (first | refine zc ?_ _ | refine ze ?_ | refine zb ?_ _)); exact BK168.out) : p := h
theorem zK218 {p : Prop} (h : p := by (with_reducible repeat (first | refine zc ?_ _ | refine ze ?_ | refine zb ?_ _)); exact BK226.out) : p := h
theorem zK219 {p : Prop} (h : p := by (with_reducible repeat (first | refine zc ?_ _ | refine ze ?_ | refine zb ?_ _)); exact BK407.out) : p := h
theorem zK220 {p : Prop} (h : p := by (with_reducible repeat (first | refine zc ?_ _ | refine ze ?_ | refine zb ?_ _)); exact BK296.out) : p := h
theorem zK221 {p : Prop} (h : p := by (with_reducible repeat (first | refine zc ?_ _ | refine ze ?_ | refine zb ?_ _)); exact BK297.out) : p := h
theorem zK222 {p : Prop} (h : p := by (with_reducible repeat (first | refine zc ?_ _ | refine ze ?_ | refine zb ?_ _)); exact BK306.out) : p := h
theorem zK223 {p : Prop} (h : p := by (with_reducible repeat (first | refine zc ?_ _ | refine ze ?_ | refine zb ?_ _)); exact BK307.out) : p := h
theorem zK224 {p : Prop} (h : p := by (with_reducible repeat (first | refine zc ?_ _ | refine ze ?_ | refine zb ?_ _)); exact BK232.out) : p := h
theorem zK225 {p : Prop} (h : p := by (with_reducible repeat (first | refine zc ?_ _ | refine ze ?_ | refine zb ?_ _)); exact BK28.out) : p := h
theorem zK226 {p : Prop} (h : p := by simp only [putAll, Act.put, List.setIfInBounds_toArray, List.set_cons_zero, List.set_cons_succ]) : p := h
theorem zK227 {p : Prop} (h : p := by (with_reducible repeat (first | apply zl | apply zm | apply zn)); exact HO_161000.out) : p := h
theorem zK228 {p : Prop} (h : p := by (with_reducible repeat (first | apply zl | apply zm | apply zn)); exact HO_408000.out) : p := h
theorem zK229 {p : Prop} (h : p := by (with_reducible repeat (first | apply zl | apply zm | apply zn)); exact HO_233000.out) : p := h
theorem zK230 {p : Prop} (h : p := by (with_reducible repeat (first | apply zad | apply zae | apply zag)); exact HO355.out) : p := h
theorem zK231 {p : Prop} (h : p := by (with_reducible repeat (first | apply zad | apply zae | apply zag)); exact HO368.out) : p := h
theorem zK232 {p : Prop} (h : p := by (with_reducible repeat (first | apply zad | apply zae | apply zag)); exact HO382.out) : p := h
theorem zK233 {p : Prop} (h : p := by (with_reducible repeat (first | apply zad | apply zae | apply zag)); exact HO397.out) : p := h
theorem zK234 {p : Prop} (h : p := by (try simp only [List.map_toArray, List.map_cons, List.map_nil]); first | done | rfl) : p := h
theorem zK235 {p : Prop} (h : p := by (with_reducible repeat (first | apply zl | apply zm | apply zn)); exact HO_5000.out) : p := h
theorem zK236 {p : Prop} (h : p := by (with_reducible repeat (first | apply zl | apply zm | apply zn)); exact HO_1002.out) : p := h
theorem zK237 {p : Prop} (h : p := by (with_reducible repeat (first | apply zad | apply zae | apply zag)); exact HO_8.out) : p := h
theorem zK238 {p : Prop} (h : p := by (with_reducible repeat (first | apply zl | apply zm | apply zn)); exact HO4_0.out) : p := h
theorem zK239 {p : Prop} (h : p := by (with_reducible repeat (first | apply zl | apply zm | apply zn)); exact HO172.out) : p := h
theorem zK240 {p : Prop} (h : p := by (with_reducible repeat (first | apply zl | apply zm | apply zn)); exact HO186.out) : p := h
theorem zK241 {p : Prop} (h : p := by (with_reducible repeat (first | apply zl | apply zm | apply zn)); exact HO254.out) : p := h
theorem zK242 {p : Prop} (h : p := by (with_reducible repeat (first | apply zl | apply zm | apply zn)); exact HO358.out) : p := h
theorem zK243 {p : Prop} (h : p := by (with_reducible repeat (first | apply zl | apply zm | apply zn)); exact HO361.out) : p := h
theorem zK244 {p : Prop} (h : p := by (with_reducible repeat (first | apply zl | apply zm | apply zn)); exact HO386.out) : p := h
theorem zK245 {p : Prop} (h : p := by (with_reducible repeat (first | apply zl | apply zm | apply zn)); exact HO_5.out) : p := h
theorem zK246 {p : Prop} (h : p := by (with_reducible repeat (first | apply zl | apply zm | apply zn)); exact HO_0.out) : p := h
theorem zK247 {p : Prop} (h : p := by (with_reducible repeat (first | apply zl | apply zm | apply zn)); exact HO_7.out) : p := h
end Go.Proofs.Ytojncbpeeboooaa.V
