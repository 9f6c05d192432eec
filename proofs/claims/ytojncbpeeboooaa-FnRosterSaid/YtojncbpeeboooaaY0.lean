-- squeezed
-- made by pp.py (wip/tools) out of the translation; Lean checks it
import Derived.Test.YtojncbpeeboooaaProg
import Derived.Below
import Derived.Deep.Draws
import Derived.Deep.AppendLies
import Derived.Maps.AppendAt
import Derived.OwnWalk
import Derived.Laws.BytesArg
import Derived.Laws.MakeOwn
import Derived.Laws.OwnMore
import Derived.Deep.OwnRows
import Derived.Tactics
import Derived.Lib.ConvBytes
import Derived.Laws.Slices
import Derived.WalkKit
import Derived.KernelRfl
import Derived.RowKit3
import Derived.Deep.LoopGhost
import Derived.Deep.QuietTactic
import Derived.BigQuiet
import Derived.WideLaws
import Derived.Deep.DeepCutAuto
import Derived.Deep.CutBlock
import Derived.Deep.RegionHeld3
import Derived.Laws.Rows
import Derived.Lib.AppendStr
import Derived.ArgAppend
import Derived.Laws.IdiomCopy
import Derived.OrdersHeld
import Derived.Laws.BitsLemmas
import Derived.RowKit
import Derived.Test.YtojncbpeeboooaaFloat
import Derived.Test.YtojncbpeeboooaaWWords
import Derived.Test.YtojncbpeeboooaaWLast
import Derived.Test.YtojncbpeeboooaaWTab
import Derived.Test.YtojncbpeeboooaaWFour
import Derived.Test.YtojncbpeeboooaaWQPut
import Derived.Test.YtojncbpeeboooaaWApart
import Derived.Test.YtojncbpeeboooaaWArr
import Derived.Test.YtojncbpeeboooaaWZeros
import Derived.Test.YtojncbpeeboooaaWFoot
import Derived.Test.YtojncbpeeboooaaWKept
import Derived.Test.YtojncbpeeboooaaWShare
import Derived.Test.YtojncbpeeboooaaWN
import Derived.Test.YtojncbpeeboooaaWFootNe
import Derived.Test.YtojncbpeeboooaaWAt
import Derived.Test.YtojncbpeeboooaaWEqStruct
import Derived.Test.YtojncbpeeboooaaWRepsOne
import Derived.Test.YtojncbpeeboooaaWInv
import Derived.Test.YtojncbpeeboooaaWInvWords
import Derived.Test.YtojncbpeeboooaaWGuard
import Derived.Test.YtojncbpeeboooaaWNEv
import Derived.Test.YtojncbpeeboooaaWMore
namespace Go.Proofs.Ytojncbpeeboooaa.Y
open Go.RowKit Go.Proofs.YtojncbpeeboooaaW.PrintWords Go.Proofs.YtojncbpeeboooaaW.PrintLast Go.Proofs.YtojncbpeeboooaaW.PrintMore
attribute [local go_sem] max2_int min2_int max_two min_two max_three min_three max_four min_four   -- for this text's walks alone
set_option linter.unusedVariables false
set_option linter.unusedSimpArgs false



abbrev q0a := @Kd.heap_pair
abbrev q0b := @Kd.heap_int
def errW : Option Int → Value
 | none => .nilIface
 | some c => .iface 0 (.int .i64 c)
theorem errW_none : errW none = .nilIface := rfl
theorem errW_some (c : Int) : errW (some c) = .iface 0 (.int .i64 c) := rfl

theorem info3 : (Try.prog.info? 3).map (fun i => (i.zero, i.size, i.bytes)) = some (some (.int .i64 0), 1, 8) := by kernel_rfl
theorem info5 : (Try.prog.info? 5).map (fun i => (i.zero, i.size, i.bytes)) = some (some (.int .u8 0), 1, 1) := by kernel_rfl
theorem info9 : (Try.prog.info? 9).map (fun i => (i.zero, i.size, i.bytes)) = some (some (.string ⟨#[]⟩), 1, 16) := by kernel_rfl
theorem info72 : (Try.prog.info? 72).map (fun i => (i.zero, i.size, i.bytes)) = some (some (.agg #[(.string ⟨#[]⟩), (.int .i64 0), (.int .i64 0), (.int .i64 0), (.slice none 0 0)]), 5, 64) := by kernel_rfl
theorem info139 : (Try.prog.info? 139).map (fun i => (i.zero, i.size, i.bytes)) = some (some (.agg #[(.int .i64 0), (.int .i64 0), (.string ⟨#[]⟩)]), 3, 32) := by kernel_rfl
-- the values' own types
/-! #### struct type 139 -/
structure S139 where
 f0 : Int
 f1 : Int
 f2 : ByteArray
def z139 : S139 := ⟨(0 : Int), (0 : Int), (⟨#[]⟩ : ByteArray)⟩
def k139 : Kd S139 := Kd.iso (Kd.pair (Kd.int .i64) (Kd.pair (Kd.int .i64) Kd.string)) (fun x : S139 => (x.f0, x.f1, x.f2))
theorem k139_heap : Kd.Heap k139 := Kd.heap_iso _ (q0a (q0b .i64) (q0a (q0b .i64) Kd.heap_string))
theorem k139_open {w : World} {x : S139} {cs : List Value} (h : k139.K w x cs) : cs = [.int .i64 x.f0, .int .i64 x.f1, .string x.f2] := by
 obtain ⟨_, _, rfl, rfl, ⟨_, _, rfl, rfl, rfl⟩⟩ := h
 exact rfl
theorem k139_openM {w : World} {base : Nat} {ok : Nat → Prop} {x : S139} {cs : List Value} (h : k139.M w base ok x cs) : cs = [.int .i64 x.f0, .int .i64 x.f1, .string x.f2] := by
 obtain ⟨_, _, rfl, rfl, ⟨_, _, rfl, rfl, rfl⟩⟩ := h
 exact rfl
theorem k139_mk (w : World) (x : S139)  : k139.K w x [.int .i64 x.f0, .int .i64 x.f1, .string x.f2] := ⟨[.int .i64 x.f0], [.int .i64 x.f1, .string x.f2], rfl, rfl, ⟨[.int .i64 x.f1], [.string x.f2], rfl, rfl, rfl⟩⟩
theorem k139_mkM (w : World) (base : Nat) (ok : Nat → Prop) (x : S139)  : k139.M w base ok x [.int .i64 x.f0, .int .i64 x.f1, .string x.f2] := ⟨[.int .i64 x.f0], [.int .i64 x.f1, .string x.f2], rfl, rfl, ⟨[.int .i64 x.f1], [.string x.f2], rfl, rfl, rfl⟩⟩
theorem k139_mkF (W : World) (ok : Nat → Prop) (x : S139) : Kd.FK k139 W ok x [.int .i64 x.f0, .int .i64 x.f1, .string x.f2] := fun W2 _ => k139_mk W2 x
def rd_T139 (xs : List S139) (i : Int) : S139 := xs.getD i.toNat z139
theorem at_T139 {w : World} {A : Option Addr} {n : Nat} {xs : List S139} (h : Kd.C k139 w A n xs) (i : Int) (h0 : 0 ≤ i) (h1 : i < n) : ∃ ad , A = some ad ∧ w.cell? (ad.add (i.toNat * 3)) = some (.int .i64 (rd_T139 xs i).f0) ∧ w.cell? ⟨(ad.add (i.toNat * 3)).block, (ad.add (i.toNat * 3)).off + 1, none⟩ = some (.int .i64 (rd_T139 xs i).f1) ∧ w.cell? ⟨(ad.add (i.toNat * 3)).block, (ad.add (i.toNat * 3)).off + 2, none⟩ = some (.string (rd_T139 xs i).f2) := by
 obtain ⟨ad, c, e, _, hK, hc0⟩ := Kd.C_get h z139 i h0 h1
 have hc : ∀ j u, c[j]? = some u → w.cell? (ad.add (i.toNat * 3 + j)) = some u := hc0
 obtain rfl := k139_open hK
 exact ⟨ad, e, hc 0 _ rfl, by rw [← add_field _ _ 1 (by omega)]; exact hc 1 _ rfl, by rw [← add_field _ _ 2 (by omega)]; exact hc 2 _ rfl⟩

def rd_L4 (xs : List (List ByteArray)) (i : Int) : (List ByteArray) := xs.getD i.toNat ([] : List ByteArray)
theorem at_L4 {w : World} {A : Option Addr} {n : Nat} {xs : List (List ByteArray)} (h : Kd.C (Kd.slice 9 Kd.string) w A n xs) (i : Int) (h0 : 0 ≤ i) (h1 : i < n) : ∃ ad A0 c0, A = some ad ∧ w.cell? (ad.add i.toNat) = some (.slice A0 (rd_L4 xs i).length c0) ∧ (rd_L4 xs i).length ≤ c0 ∧ Kd.string.C w A0 (rd_L4 xs i).length (rd_L4 xs i) := by
 obtain ⟨ad, c, e, _, hK, hc0⟩ := Kd.C_get h ([] : List ByteArray) i h0 h1
 have hc : ∀ j u, c[j]? = some u → w.cell? (ad.add (i.toNat * 1 + j)) = some u := hc0
 obtain ⟨A0, c0, rfl, l0, g0⟩ := hK
 exact ⟨ad, A0, c0, e, by have hq := hc 0 _ rfl; rwa [Nat.mul_one, Nat.add_zero] at hq, l0, g0⟩

/-! #### struct type 72 -/
structure S72 where
 f0 : ByteArray
 f1 : Int
 f2 : Int
 f3 : Int
 f4 : (List ByteArray)
def z72 : S72 := ⟨(⟨#[]⟩ : ByteArray), (0 : Int), (0 : Int), (0 : Int), ([] : List ByteArray)⟩
def k72 : Kd S72 := Kd.iso (Kd.pair Kd.string (Kd.pair (Kd.int .i64) (Kd.pair (Kd.int .i64) (Kd.pair (Kd.int .i64) (Kd.slice 9 Kd.string))))) (fun x : S72 => (x.f0, x.f1, x.f2, x.f3, x.f4))
theorem k72_heap : Kd.Heap k72 := Kd.heap_iso _ (q0a Kd.heap_string (q0a (q0b .i64) (q0a (q0b .i64) (q0a (q0b .i64) (Kd.heap_slice 9 Kd.heap_string)))))
theorem k72_open {w : World} {x : S72} {cs : List Value} (h : k72.K w x cs) : ∃ A4 c4, cs = [.string x.f0, .int .i64 x.f1, .int .i64 x.f2, .int .i64 x.f3, .slice A4 x.f4.length c4] ∧ x.f4.length ≤ c4 ∧ Kd.string.C w A4 x.f4.length x.f4 := by
 obtain ⟨_, _, rfl, rfl, ⟨_, _, rfl, rfl, ⟨_, _, rfl, rfl, ⟨_, _, rfl, rfl, ⟨A4, c4, rfl, l4, g4⟩⟩⟩⟩⟩ := h
 exact ⟨A4, c4, rfl, l4, g4⟩
theorem k72_openM {w : World} {base : Nat} {ok : Nat → Prop} {x : S72} {cs : List Value} (h : k72.M w base ok x cs) : ∃ v4, cs = [.string x.f0, .int .i64 x.f1, .int .i64 x.f2, .int .i64 x.f3, v4] ∧ Kd.string.R 9 w base ok v4 x.f4 := by
 obtain ⟨_, _, rfl, rfl, ⟨_, _, rfl, rfl, ⟨_, _, rfl, rfl, ⟨_, _, rfl, rfl, ⟨v4, rfl, g4⟩⟩⟩⟩⟩ := h
 exact ⟨v4, rfl, g4⟩
theorem k72_mk (w : World) (x : S72) {A4 : Option Addr} {c4 : Nat} (l4 : x.f4.length ≤ c4) (g4 : Kd.string.C w A4 x.f4.length x.f4) : k72.K w x [.string x.f0, .int .i64 x.f1, .int .i64 x.f2, .int .i64 x.f3, .slice A4 x.f4.length c4] := ⟨[.string x.f0], [.int .i64 x.f1, .int .i64 x.f2, .int .i64 x.f3, .slice A4 x.f4.length c4], rfl, rfl, ⟨[.int .i64 x.f1], [.int .i64 x.f2, .int .i64 x.f3, .slice A4 x.f4.length c4], rfl, rfl, ⟨[.int .i64 x.f2], [.int .i64 x.f3, .slice A4 x.f4.length c4], rfl, rfl, ⟨[.int .i64 x.f3], [.slice A4 x.f4.length c4], rfl, rfl, ⟨A4, c4, rfl, l4, g4⟩⟩⟩⟩⟩
theorem k72_mkM (w : World) (base : Nat) (ok : Nat → Prop) (x : S72) {v4 : Value} (g4 : Kd.string.R 9 w base ok v4 x.f4) : k72.M w base ok x [.string x.f0, .int .i64 x.f1, .int .i64 x.f2, .int .i64 x.f3, v4] := ⟨[.string x.f0], [.int .i64 x.f1, .int .i64 x.f2, .int .i64 x.f3, v4], rfl, rfl, ⟨[.int .i64 x.f1], [.int .i64 x.f2, .int .i64 x.f3, v4], rfl, rfl, ⟨[.int .i64 x.f2], [.int .i64 x.f3, v4], rfl, rfl, ⟨[.int .i64 x.f3], [v4], rfl, rfl, ⟨v4, rfl, g4⟩⟩⟩⟩⟩
theorem k72_openF {W : World} {ok : Nat → Prop} {x : S72} {cs : List Value} (h : Kd.FK k72 W ok x cs) : ∃ A4 c4, cs = [.string x.f0, .int .i64 x.f1, .int .i64 x.f2, .int .i64 x.f3, .slice A4 x.f4.length c4] ∧ x.f4.length ≤ c4 ∧ Kd.F Kd.string W ok A4 x.f4.length x.f4 := by
 obtain ⟨A4, c4, rfl, l4, _⟩ := k72_open (Kd.FK_now h)
 exact ⟨A4, c4, rfl, l4, (fun W' hW => by obtain ⟨A4_, c4_, he, l4_, g4_⟩ := k72_open (h W' hW); injection (Option.some.inj (show some (Value.slice A4 x.f4.length c4) = some (Value.slice A4_ x.f4.length c4_) from congrArg (fun l => l[4]?) he)) with ha_ _ _; rw [ha_]; exact g4_)⟩
theorem k72_mkF (W : World) (ok : Nat → Prop) (x : S72) {A4 : Option Addr} {c4 : Nat} (l4 : x.f4.length ≤ c4) (g4 : Kd.F Kd.string W ok A4 x.f4.length x.f4) : Kd.FK k72 W ok x [.string x.f0, .int .i64 x.f1, .int .i64 x.f2, .int .i64 x.f3, .slice A4 x.f4.length c4] := fun W2 hW => k72_mk W2 x l4 (g4 W2 hW)
def rd_T72 (xs : List S72) (i : Int) : S72 := xs.getD i.toNat z72
theorem at_T72 {w : World} {A : Option Addr} {n : Nat} {xs : List S72} (h : Kd.C k72 w A n xs) (i : Int) (h0 : 0 ≤ i) (h1 : i < n) : ∃ ad A4 c4, A = some ad ∧ w.cell? (ad.add (i.toNat * 5)) = some (.string (rd_T72 xs i).f0) ∧ w.cell? ⟨(ad.add (i.toNat * 5)).block, (ad.add (i.toNat * 5)).off + 1, none⟩ = some (.int .i64 (rd_T72 xs i).f1) ∧ w.cell? ⟨(ad.add (i.toNat * 5)).block, (ad.add (i.toNat * 5)).off + 2, none⟩ = some (.int .i64 (rd_T72 xs i).f2) ∧ w.cell? ⟨(ad.add (i.toNat * 5)).block, (ad.add (i.toNat * 5)).off + 3, none⟩ = some (.int .i64 (rd_T72 xs i).f3) ∧ w.cell? ⟨(ad.add (i.toNat * 5)).block, (ad.add (i.toNat * 5)).off + 4, none⟩ = some (.slice A4 (rd_T72 xs i).f4.length c4) ∧ (rd_T72 xs i).f4.length ≤ c4 ∧ Kd.string.C w A4 (rd_T72 xs i).f4.length (rd_T72 xs i).f4 := by
 obtain ⟨ad, c, e, _, hK, hc0⟩ := Kd.C_get h z72 i h0 h1
 have hc : ∀ j u, c[j]? = some u → w.cell? (ad.add (i.toNat * 5 + j)) = some u := hc0
 obtain ⟨A4, c4, rfl, l4, g4⟩ := k72_open hK
 exact ⟨ad, A4, c4, e, hc 0 _ rfl, by rw [← add_field _ _ 1 (by omega)]; exact hc 1 _ rfl, by rw [← add_field _ _ 2 (by omega)]; exact hc 2 _ rfl, by rw [← add_field _ _ 3 (by omega)]; exact hc 3 _ rfl, by rw [← add_field _ _ 4 (by omega)]; exact hc 4 _ rfl, l4, g4⟩

def rd_L6 (xs : List (List Int)) (i : Int) : (List Int) := xs.getD i.toNat ([] : List Int)
theorem at_L6 {w : World} {A : Option Addr} {n : Nat} {xs : List (List Int)} (h : Kd.C (Kd.slice 5 (Kd.int .u8)) w A n xs) (i : Int) (h0 : 0 ≤ i) (h1 : i < n) : ∃ ad A0 c0, A = some ad ∧ w.cell? (ad.add i.toNat) = some (.slice A0 (rd_L6 xs i).length c0) ∧ (rd_L6 xs i).length ≤ c0 ∧ (Kd.int .u8).C w A0 (rd_L6 xs i).length (rd_L6 xs i) := by
 obtain ⟨ad, c, e, _, hK, hc0⟩ := Kd.C_get h ([] : List Int) i h0 h1
 have hc : ∀ j u, c[j]? = some u → w.cell? (ad.add (i.toNat * 1 + j)) = some u := hc0
 obtain ⟨A0, c0, rfl, l0, g0⟩ := hK
 exact ⟨ad, A0, c0, e, by have hq := hc 0 _ rfl; rwa [Nat.mul_one, Nat.add_zero] at hq, l0, g0⟩

-- aliases
theorem zO {p : Prop} [Decidable p] (h : decide p = true := by first | (with_reducible assumption) | assumption) : p := of_decide_eq_true h
abbrev za := @Aside0.mk
abbrev zb := @World.block_lt_of_cell?
abbrev zc := @pw_below_drewN
abbrev zd := @blk_drewN
abbrev ze := @blk_alloc
abbrev zf := @below_set
abbrev zg := @blk_drew
abbrev zh := @below_drew1
abbrev zi := @below_alloc
abbrev zj := @blk_frozen
abbrev zk := @blk_cell
abbrev zl := @Kd.R_alloc
abbrev zm := @Kd.R_drewN
abbrev zn := @Kd.R_drew
abbrev zo := @below_size
abbrev zp := @blk_below
abbrev zq := @Kd.R_below
abbrev zr := @below_step
abbrev zs := @Kd.R_far
abbrev zt := @Kd.R_mono
abbrev zu := @blk_put
abbrev zv := @Kd.R_types
abbrev zw := @Kd.N_alloc
abbrev zx := @Kd.N_drewN
abbrev zy := @Kd.N_drew
abbrev zz := @blk_far
abbrev zaa := @Kd.C_alloc
abbrev zab := @Kd.C_drewN
abbrev zac := @Kd.C_drew
abbrev zad := @Kd.R_reads'
abbrev zae := @blk_lt
abbrev zaf := @Kd.R_lt
abbrev zag := @Kd.R_base
abbrev zah := @Kd.C_below
abbrev zai := @Kd.N_mono
abbrev zaj := @Kd.R_apart'
abbrev zak := @Kd.R_elder'
abbrev zal := @Kd.R_slice
abbrev zam := @Kd.R_lower
abbrev zan := @Kd.N_typed
abbrev zao := @Kd.R_new'
abbrev zap := @Kd.N_reads'
abbrev zaq := @Kd.R_typed
abbrev zar := @Kd.R_over'
abbrev zas := @blk_grown
abbrev zat := @Kd.N_elder'
abbrev zau := @Kd.S_alloc
abbrev zav := @Kd.S_drewN
abbrev zaw := @Kd.C_kept_now
abbrev zax := @Kd.S_drew
abbrev zay := @Kd.N_far
abbrev zaz := @KeepBut.set_
abbrev zba := @Kd.N_below
abbrev zbb := @Kd.N_elderB
abbrev zbc := @Kd.S_mono
abbrev zbd := @Kd.R_keep
abbrev zbe := @Kd.N_ne
abbrev zbf := @Kd.at_int
abbrev zbg := @Kd.at_string
abbrev zbh := @Kd.R_lit
abbrev zbi := @Kd.R_nil
abbrev zbj := @Kd.R_ne
abbrev zbk := @Kd.C_kept_came
abbrev zbl := @blk_kept
abbrev zbm := @KeepBut.trans
abbrev zbn := @Kd.R_after
abbrev zbo := @Kd.S_keep
abbrev zbp := @Kd.S_far
abbrev zbq := @Kd.N_nil
abbrev zbr := @Kd.V_nil
abbrev zbs := @Kd.Q_nil
abbrev zbt := @Kd.S_nil
abbrev zbu := @Kd.N_afterv
abbrev zbv := @KeepBut.refl
abbrev zbw := @Kd.R_tight
abbrev zbx := @Kd.R_append
abbrev zby := @Kept.of_grown
abbrev zbz := @Kd.N_append_rows
abbrev zca := @Kd.R_newM
abbrev zcb := @Kd.S_typed
abbrev zcc := @Kd.C_kept_call
abbrev zcd := @Kd.C_of_reads
abbrev zce := @Kd.reads_of_C
abbrev zcf := @Kd.R_lit_step
abbrev zcg := @Kd.S_below
abbrev zch := @Kd.N_lower
abbrev zci := @Kd.N_slice
theorem zG87 {p : Prop} (h : p := by repeat (first | (with_reducible first | exact HK.out | apply Kept.alloc | apply Kept.drewN | apply Kept.drew | refine Kept.setCell ?_ (.inl (Or.inl (Or.inr rfl))) _ | refine Kept.setCell ?_ (.inl (Or.inr rfl)) _) | exact HK.out)) : p := h
theorem zG88 {p : Prop} (h : p := by repeat (first | (with_reducible first | exact HB.out | apply zi | apply zc | apply zh | refine zf ?_ GE1.out | refine zf ?_ GE2.out | refine zf ?_ GE3.out | refine zf ?_ GE4.out | refine zf ?_ GE5.out) | exact HB.out)) : p := h
theorem zG89 {p : Prop} (h : p := by repeat (first | (with_reducible first | exact HB.out | apply zi | apply zc | apply zh | refine zf ?_ GE283.out | refine zf ?_ GE284.out | refine zf ?_ GE285.out) | exact HB.out)) : p := h
theorem zG90 {p : Prop} (h : p := by repeat (first | (with_reducible first | exact HB.out | apply zi | apply zc | apply zh | refine zf ?_ GE384.out | refine zf ?_ GE391.out | refine zf ?_ GE405.out) | exact HB.out)) : p := h
theorem zG91 {p : Prop} (h : p := by repeat (first | (with_reducible first | exact HK.out | apply Kept.alloc | apply Kept.drewN | apply Kept.drew | refine Kept.setCell ?_ (.inl (Or.inr rfl)) _) | exact HK.out)) : p := h
theorem zG92 {p : Prop} (h : p := by repeat (first | (with_reducible first | exact HB.out | apply zi | apply zc | apply zh | refine zf ?_ GE384.out | refine zf ?_ GE391.out) | exact HB.out)) : p := h
theorem zG93 {p : Prop} (h : p := by (try simp only [List.map_toArray, List.map_cons, List.map_nil]); first | done | rfl | (simp only [List.length_drop, List.length_take]; rfl)) : p := h
theorem zG94 {p : Prop} (h : p := by repeat (first | (with_reducible first | exact HB.out | apply zi | apply zc | apply zh | refine zf ?_ (IsS168.ge HI138.out)) | exact HB.out)) : p := h
theorem zG95 {p : Prop} (h : p := by repeat (first | (with_reducible first | exact HB.out | apply zi | apply zc | apply zh | refine zf ?_ GE297.out) | exact HB.out)) : p := h
theorem zG96 {p : Prop} (h : p := by repeat (first | (with_reducible first | exact HB.out | apply zi | apply zc | apply zh | refine zf ?_ GE0.out) | exact HB.out)) : p := h
theorem zG97 {p : Prop} (h : p := by first | (rw [add_block]; exact hn333_0) | (show (Addr.add _ _).block ≠ _; rw [add_block]; exact hn333_0) | exact hn333_0) : p := h
theorem zG98 {p : Prop} (h : p := by first | (rw [add_block]; exact hn333_1) | (show (Addr.add _ _).block ≠ _; rw [add_block]; exact hn333_1) | exact hn333_1) : p := h
theorem zG99 {p : Prop} (h : p := by first | (rw [add_block]; exact hn333_2) | (show (Addr.add _ _).block ≠ _; rw [add_block]; exact hn333_2) | exact hn333_2) : p := h
theorem zG100 {p : Prop} (h : p := by first | (rw [add_block]; exact hn333_3) | (show (Addr.add _ _).block ≠ _; rw [add_block]; exact hn333_3) | exact hn333_3) : p := h
theorem zG101 {p : Prop} (h : p := by first | (rw [add_block]; exact hn333_4) | (show (Addr.add _ _).block ≠ _; rw [add_block]; exact hn333_4) | exact hn333_4) : p := h
theorem zG102 {p : Prop} (h : p := by repeat (first | (with_reducible first | exact HB.out | apply zi | apply zc | apply zh) | exact HB.out)) : p := h
theorem zG103 {p : Prop} (h : p := by (with_reducible repeat (first | refine zd ?_ _ | refine zg ?_ | refine ze ?_ _)); exact BK283.out) : p := h
theorem zG104 {p : Prop} (h : p := by (with_reducible repeat (first | refine zd ?_ _ | refine zg ?_ | refine ze ?_ _)); exact BK284.out) : p := h
theorem zG105 {p : Prop} (h : p := by (with_reducible repeat (first | refine zd ?_ _ | refine zg ?_ | refine ze ?_ _)); exact BK285.out) : p := h
theorem zG106 {p : Prop} (h : p := by (with_reducible repeat (first | refine zd ?_ _ | refine zg ?_ | refine ze ?_ _)); exact BK359.out) : p := h
theorem zG107 {p : Prop} (h : p := by (with_reducible repeat (first | refine zd ?_ _ | refine zg ?_ | refine ze ?_ _)); exact BK384.out) : p := h
theorem zG108 {p : Prop} (h : p := by (with_reducible repeat (first | refine zd ?_ _ | refine zg ?_ | refine ze ?_ _)); exact BK391.out) : p := h
theorem zG109 {p : Prop} (h : p := by (with_reducible repeat (first | refine zd ?_ _ | refine zg ?_ | refine ze ?_ _)); exact BK405.out) : p := h
theorem zG110 {p : Prop} (h : p := by (with_reducible repeat (first | refine zd ?_ _ | refine zg ?_ | refine ze ?_ _)); exact BK3.out) : p := h
theorem zG111 {p : Prop} (h : p := by (with_reducible repeat (first | refine zd ?_ _ | refine zg ?_ | refine ze ?_ _)); exact BK4.out) : p := h
theorem zG112 {p : Prop} (h : p := by (with_reducible repeat (first | apply zl | apply zm | apply zn)); exact HO_385000.out) : p := h
theorem zG113 {p : Prop} (h : p := by (with_reducible repeat (first | apply zl | apply zm | apply zn)); exact HO_392000.out) : p := h
theorem zG114 {p : Prop} (h : p := by (with_reducible repeat (first | apply zau | apply zav | apply zax)); exact HO_9.out) : p := h
theorem zG115 {p : Prop} (h : p := by (with_reducible repeat (first | apply zl | apply zm | apply zn)); exact HO401.out) : p := h
theorem zG116 {p : Prop} (h : p := by (with_reducible repeat (first | apply zl | apply zm | apply zn)); exact HO_1.out) : p := h
theorem zG117 {p : Prop} (h : p := by (with_reducible repeat (first | apply zl | apply zm | apply zn)); exact HO_6.out) : p := h
theorem zG118 {p : Prop} (h : p := by (with_reducible repeat (first | apply zl | apply zm | apply zn)); exact HO_3.out) : p := h
theorem zG119 {p : Prop} (h : p := by (with_reducible repeat (first | apply zw | apply zx | apply zy)); exact HO_4.out) : p := h
theorem zG120 {p : Prop} (h : p := by have := zb _ _ hw255_0; first | rwa [add_block] at this | exact this) : p := h
theorem zG121 {p : Prop} (h : p := by have := zb _ _ hw255_1; first | rwa [add_block] at this | exact this) : p := h
theorem zG122 {p : Prop} (h : p := by have := zb _ _ hw255_2; first | rwa [add_block] at this | exact this) : p := h
theorem zG123 {p : Prop} (h : p := by have := zb _ _ hw256_0; first | rwa [add_block] at this | exact this) : p := h
theorem zG124 {p : Prop} (h : p := by have := zb _ _ hw256_1; first | rwa [add_block] at this | exact this) : p := h
theorem zG125 {p : Prop} (h : p := by have := zb _ _ hw256_2; first | rwa [add_block] at this | exact this) : p := h
theorem zG126 {p : Prop} (h : p := by have := zb _ _ hw256_3; first | rwa [add_block] at this | exact this) : p := h
theorem zG127 {p : Prop} (h : p := by have := zb _ _ hw256_4; first | rwa [add_block] at this | exact this) : p := h
theorem zG128 {p : Prop} (h : p := by have := zb _ _ hx333_0; first | rwa [add_block] at this | exact this) : p := h
theorem zG129 {p : Prop} (h : p := by first | rfl | (simp; done) | (simp [*]; done)) : p := h
theorem zG130 {p : Prop} (h : p := by kernel_rfl) : p := h
theorem zG131 {p : Prop} (h : p := by decide) : p := h
-- pressed
abbrev zA_ := @And.intro
-- pressed twice
theorem zAi {a b c : Prop} (h : a → b → c) : a ∧ b → c := fun x => h x.1 x.2
theorem zP {P : Program} {ops : Array Oper} {Q : Exit → Act → World → Prop} {md : Region.Mode} {S : World → Prop} {ds : List Nat} {T : Bool × List (List Nat × List Nat)} {oi : Oper} {v : Value} {fuel : Nat} {l : Array Bool} {a a' : Act} {w : World} (i : Nat) (N : Tmp) (l' : Array Bool) (hT : Aside0 (rtab md ops = T)) (h : wpAnyLast P md ops Q S ds fuel l' a' w) (hi : ops[i]? = some oi := by rfl) (hN : oi.dst = some N := by rfl) (hc : anyT T l.toList l'.toList i = true := by kernel_rfl) (hQ : ∀ c a w, Q (.panic c) (a.put oi.dst v) w → Q (.panic c) a w := by exact fun _ _ _ h => h) (hw : Region.wanted oi (yielded ops a.tmps) = true := by rfl) (hy : ∀ w, (execOp a.eval oi).run P w = .ok (.value v) w := by intro w'; go_simp; with_reducible rfl) (ha : a.put (some N) v = a' := by simp only [Act.put, List.setIfInBounds_toArray, List.set_cons_zero, List.set_cons_succ, i64_w, i32_w]; rfl) : wpAnyLast P md ops Q S ds (fuel + 1) l a w := pure_ l' hi hN (any_of hT.out hc) hQ (Or.inl ⟨hw, hy⟩) ha h
theorem zQ {P : Program} {ops : Array Oper} {Q : Exit → Act → World → Prop} {md : Region.Mode} {S : World → Prop} {ds : List Nat} {T : Bool × List (List Nat × List Nat)} {oi : Oper} {v : Value} {fuel : Nat} {l : Array Bool} {a a' : Act} {w : World} {B : List Nat} (i : Nat) (N : Tmp) (l' : Array Bool) (hT : Aside0 (rtab md ops = T)) (hW : Aside0 (waitsOk T.2 B = true)) (hS : S w) (h : wpAnyLast P md ops Q S ds fuel l' a' w) (hi : ops[i]? = some oi := by rfl) (hN : oi.dst = some N := by rfl) (hc : takeW T B ds l.toList l'.toList i = true := by kernel_rfl) (hQ : ∀ c a w, Q (.panic c) (a.put oi.dst v) w → Q (.panic c) a w := by exact fun _ _ _ h => h) (hw : Region.wanted oi (yielded ops a.tmps) = true := by rfl) (hy : ∀ w, S w → (execOp a.eval oi).run P w = .ok (.value v) w := by intro w'; (repeat (refine zAi ?_; intro _)); intro _; go_simp; with_reducible rfl) (ha : a.put (some N) v = a' := by simp only [Act.put, List.setIfInBounds_toArray, List.set_cons_zero, List.set_cons_succ, i64_w, i32_w]; rfl) : wpAnyLast P md ops Q S ds (fuel + 1) l a w := take_ l' hi hN (take_ofW hT.out hW.out hc) hQ (Or.inl ⟨hw, hy⟩) hS ha h
theorem zU {P : Program} {ops : Array Oper} {Q : Exit → Act → World → Prop} {md : Region.Mode} {S : World → Prop} {ds : List Nat} {T : Bool × List (List Nat × List Nat)} {oi : Oper} {fuel : Nat} {l : Array Bool} {a a' : Act} {w : World} (i : Nat) (N : Tmp) (l' : Array Bool) (hT : Aside0 (rtab md ops = T)) (h : wpAnyLast P md ops Q S ds fuel l' a' w) (hi : ops[i]? = some oi := by rfl) (hN : oi.dst = some N := by rfl) (hc : anyT T l.toList l'.toList i = true := by kernel_rfl) (hQ : ∀ c a w, Q (.panic c) (a.put oi.dst undef) w → Q (.panic c) a w := by exact fun _ _ _ h => h) (hw : Region.wanted oi (yielded ops a.tmps) = false := by rfl) (ha : a.put (some N) undef = a' := by simp only [Act.put, List.setIfInBounds_toArray, List.set_cons_zero, List.set_cons_succ, i64_w, i32_w]; rfl) : wpAnyLast P md ops Q S ds (fuel + 1) l a w := pure_ l' hi hN (any_of hT.out hc) hQ (Or.inr ⟨hw, rfl⟩) ha h
def zM (n m : Nat) : Array Bool := ⟨(List.range n).map (fun i => Nat.testBit m i)⟩
theorem zB1 {w : World} {g : Nat} {t : TypeId} {v0 : Value} (h : w.heap[g]? = some (.cells #[v0] t (0, 0))) : w.cell? ⟨g, 0, none⟩ = some v0 ∧ w.frozen? ⟨g, 0, none⟩ = false := ⟨(blk_cell h 0).trans rfl, blk_frozen h 0⟩
theorem zB2 {w : World} {g : Nat} {t : TypeId} {v0 v1 : Value} (h : w.heap[g]? = some (.cells #[v0, v1] t (0, 0))) : w.cell? ⟨g, 0, none⟩ = some v0 ∧ w.cell? ⟨g, 1, none⟩ = some v1 ∧ w.frozen? ⟨g, 0, none⟩ = false ∧ w.frozen? ⟨g, 1, none⟩ = false := ⟨(blk_cell h 0).trans rfl, (blk_cell h 1).trans rfl, blk_frozen h 0, blk_frozen h 1⟩
theorem zB3 {w : World} {g : Nat} {t : TypeId} {v0 v1 v2 : Value} (h : w.heap[g]? = some (.cells #[v0, v1, v2] t (0, 0))) : w.cell? ⟨g, 0, none⟩ = some v0 ∧ w.cell? ⟨g, 1, none⟩ = some v1 ∧ w.cell? ⟨g, 2, none⟩ = some v2 ∧ w.frozen? ⟨g, 0, none⟩ = false ∧ w.frozen? ⟨g, 1, none⟩ = false ∧ w.frozen? ⟨g, 2, none⟩ = false := ⟨(blk_cell h 0).trans rfl, (blk_cell h 1).trans rfl, (blk_cell h 2).trans rfl, blk_frozen h 0, blk_frozen h 1, blk_frozen h 2⟩
theorem zB5 {w : World} {g : Nat} {t : TypeId} {v0 v1 v2 v3 v4 : Value} (h : w.heap[g]? = some (.cells #[v0, v1, v2, v3, v4] t (0, 0))) : w.cell? ⟨g, 0, none⟩ = some v0 ∧ w.cell? ⟨g, 1, none⟩ = some v1 ∧ w.cell? ⟨g, 2, none⟩ = some v2 ∧ w.cell? ⟨g, 3, none⟩ = some v3 ∧ w.cell? ⟨g, 4, none⟩ = some v4 ∧ w.frozen? ⟨g, 0, none⟩ = false ∧ w.frozen? ⟨g, 1, none⟩ = false ∧ w.frozen? ⟨g, 2, none⟩ = false ∧ w.frozen? ⟨g, 3, none⟩ = false ∧ w.frozen? ⟨g, 4, none⟩ = false := ⟨(blk_cell h 0).trans rfl, (blk_cell h 1).trans rfl, (blk_cell h 2).trans rfl, (blk_cell h 3).trans rfl, (blk_cell h 4).trans rfl, blk_frozen h 0, blk_frozen h 1, blk_frozen h 2, blk_frozen h 3, blk_frozen h 4⟩
theorem zN1 (p : Nat) {b s : Nat} (hg : b = s) (h : p ≤ s) : Aside0 (p ≤ b) := ⟨hg ▸ h⟩
theorem zN2 {a b s : Nat} (hg : b = s) (h : a < s) : Aside0 (a ≠ b) ∧ Aside0 (b ≠ a) := ⟨⟨by subst hg; exact Nat.ne_of_lt h⟩, ⟨by subst hg; exact Nat.ne_of_gt h⟩⟩
theorem zN3 {a b s : Nat} {c : Prop} (hg : b = s) (h : a < s) (r : c) : Aside0 (a ≠ b) ∧ Aside0 (b ≠ a) ∧ c := ⟨(zN2 hg h).1, (zN2 hg h).2, r⟩
theorem zD2 {p0 p1 : Prop} (h0 : p0) (h1 : p1) : Aside0 p0 ∧ Aside0 p1 := ⟨⟨h0⟩, ⟨h1⟩⟩
theorem zD3 {p0 p1 p2 : Prop} (h0 : p0) (h1 : p1) (h2 : p2) : Aside0 p0 ∧ Aside0 p1 ∧ Aside0 p2 := ⟨⟨h0⟩, ⟨h1⟩, ⟨h2⟩⟩
theorem zD4 {p0 p1 p2 p3 : Prop} (h0 : p0) (h1 : p1) (h2 : p2) (h3 : p3) : Aside0 p0 ∧ Aside0 p1 ∧ Aside0 p2 ∧ Aside0 p3 := ⟨⟨h0⟩, ⟨h1⟩, ⟨h2⟩, ⟨h3⟩⟩
theorem zD5 {p0 p1 p2 p3 p4 : Prop} (h0 : p0) (h1 : p1) (h2 : p2) (h3 : p3) (h4 : p4) : Aside0 p0 ∧ Aside0 p1 ∧ Aside0 p2 ∧ Aside0 p3 ∧ Aside0 p4 := ⟨⟨h0⟩, ⟨h1⟩, ⟨h2⟩, ⟨h3⟩, ⟨h4⟩⟩
theorem zD6 {p0 p1 p2 p3 p4 p5 : Prop} (h0 : p0) (h1 : p1) (h2 : p2) (h3 : p3) (h4 : p4) (h5 : p5) : Aside0 p0 ∧ Aside0 p1 ∧ Aside0 p2 ∧ Aside0 p3 ∧ Aside0 p4 ∧ Aside0 p5 := ⟨⟨h0⟩, ⟨h1⟩, ⟨h2⟩, ⟨h3⟩, ⟨h4⟩, ⟨h5⟩⟩
theorem zD7 {p0 p1 p2 p3 p4 p5 p6 : Prop} (h0 : p0) (h1 : p1) (h2 : p2) (h3 : p3) (h4 : p4) (h5 : p5) (h6 : p6) : Aside0 p0 ∧ Aside0 p1 ∧ Aside0 p2 ∧ Aside0 p3 ∧ Aside0 p4 ∧ Aside0 p5 ∧ Aside0 p6 := ⟨⟨h0⟩, ⟨h1⟩, ⟨h2⟩, ⟨h3⟩, ⟨h4⟩, ⟨h5⟩, ⟨h6⟩⟩
theorem zD8 {p0 p1 p2 p3 p4 p5 p6 p7 : Prop} (h0 : p0) (h1 : p1) (h2 : p2) (h3 : p3) (h4 : p4) (h5 : p5) (h6 : p6) (h7 : p7) : Aside0 p0 ∧ Aside0 p1 ∧ Aside0 p2 ∧ Aside0 p3 ∧ Aside0 p4 ∧ Aside0 p5 ∧ Aside0 p6 ∧ Aside0 p7 := ⟨⟨h0⟩, ⟨h1⟩, ⟨h2⟩, ⟨h3⟩, ⟨h4⟩, ⟨h5⟩, ⟨h6⟩, ⟨h7⟩⟩
theorem zD9 {p0 p1 p2 p3 p4 p5 p6 p7 p8 : Prop} (h0 : p0) (h1 : p1) (h2 : p2) (h3 : p3) (h4 : p4) (h5 : p5) (h6 : p6) (h7 : p7) (h8 : p8) : Aside0 p0 ∧ Aside0 p1 ∧ Aside0 p2 ∧ Aside0 p3 ∧ Aside0 p4 ∧ Aside0 p5 ∧ Aside0 p6 ∧ Aside0 p7 ∧ Aside0 p8 := ⟨⟨h0⟩, ⟨h1⟩, ⟨h2⟩, ⟨h3⟩, ⟨h4⟩, ⟨h5⟩, ⟨h6⟩, ⟨h7⟩, ⟨h8⟩⟩
theorem zD10 {p0 p1 p2 p3 p4 p5 p6 p7 p8 p9 : Prop} (h0 : p0) (h1 : p1) (h2 : p2) (h3 : p3) (h4 : p4) (h5 : p5) (h6 : p6) (h7 : p7) (h8 : p8) (h9 : p9) : Aside0 p0 ∧ Aside0 p1 ∧ Aside0 p2 ∧ Aside0 p3 ∧ Aside0 p4 ∧ Aside0 p5 ∧ Aside0 p6 ∧ Aside0 p7 ∧ Aside0 p8 ∧ Aside0 p9 := ⟨⟨h0⟩, ⟨h1⟩, ⟨h2⟩, ⟨h3⟩, ⟨h4⟩, ⟨h5⟩, ⟨h6⟩, ⟨h7⟩, ⟨h8⟩, ⟨h9⟩⟩
theorem zD11 {p0 p1 p2 p3 p4 p5 p6 p7 p8 p9 p10 : Prop} (h0 : p0) (h1 : p1) (h2 : p2) (h3 : p3) (h4 : p4) (h5 : p5) (h6 : p6) (h7 : p7) (h8 : p8) (h9 : p9) (h10 : p10) : Aside0 p0 ∧ Aside0 p1 ∧ Aside0 p2 ∧ Aside0 p3 ∧ Aside0 p4 ∧ Aside0 p5 ∧ Aside0 p6 ∧ Aside0 p7 ∧ Aside0 p8 ∧ Aside0 p9 ∧ Aside0 p10 := ⟨⟨h0⟩, ⟨h1⟩, ⟨h2⟩, ⟨h3⟩, ⟨h4⟩, ⟨h5⟩, ⟨h6⟩, ⟨h7⟩, ⟨h8⟩, ⟨h9⟩, ⟨h10⟩⟩
theorem zD16 {p0 p1 p2 p3 p4 p5 p6 p7 p8 p9 p10 p11 p12 p13 p14 p15 : Prop} (h0 : p0) (h1 : p1) (h2 : p2) (h3 : p3) (h4 : p4) (h5 : p5) (h6 : p6) (h7 : p7) (h8 : p8) (h9 : p9) (h10 : p10) (h11 : p11) (h12 : p12) (h13 : p13) (h14 : p14) (h15 : p15) : Aside0 p0 ∧ Aside0 p1 ∧ Aside0 p2 ∧ Aside0 p3 ∧ Aside0 p4 ∧ Aside0 p5 ∧ Aside0 p6 ∧ Aside0 p7 ∧ Aside0 p8 ∧ Aside0 p9 ∧ Aside0 p10 ∧ Aside0 p11 ∧ Aside0 p12 ∧ Aside0 p13 ∧ Aside0 p14 ∧ Aside0 p15 := ⟨⟨h0⟩, ⟨h1⟩, ⟨h2⟩, ⟨h3⟩, ⟨h4⟩, ⟨h5⟩, ⟨h6⟩, ⟨h7⟩, ⟨h8⟩, ⟨h9⟩, ⟨h10⟩, ⟨h11⟩, ⟨h12⟩, ⟨h13⟩, ⟨h14⟩, ⟨h15⟩⟩
theorem zH0 {p : Prop} (h : p := by (with_reducible repeat (first | refine zd ?_ _ | refine zg ?_ | refine ze ?_ _)); refine zu (cs := #[.string ((rd_T72 l1 x7_3).f0), .int .i64 ((rd_T72 l1 x7_3).f1), .int .i64 ((rd_T72 l1 x7_3).f2), .int .i64 ((rd_T72 l1 x7_3).f3), .slice none 0 0]) ?_ 4 _ rfl; (with_reducible repeat (first | refine zd ?_ _ | refine zg ?_ | refine ze ?_ _)); refine zu (cs := #[.string ((rd_T72 l1 x7_3).f0), .int .i64 ((rd_T72 l1 x7_3).f1), .int .i64 ((rd_T72 l1 x7_3).f2), .int .i64 0, .slice none 0 0]) ?_ 3 _ rfl; (with_reducible repeat (first | refine zd ?_ _ | refine zg ?_ | refine ze ?_ _)); refine zu (cs := #[.string ((rd_T72 l1 x7_3).f0), .int .i64 ((rd_T72 l1 x7_3).f1), .int .i64 0, .int .i64 0, .slice none 0 0]) ?_ 2 _ rfl; (with_reducible repeat (first | refine zd ?_ _ | refine zg ?_ | refine ze ?_ _)); refine zu (cs := #[.string ((rd_T72 l1 x7_3).f0), .int .i64 0, .int .i64 0, .int .i64 0, .slice none 0 0]) ?_ 1 _ rfl; (with_reducible repeat (first | refine zd ?_ _ | refine zg ?_ | refine ze ?_ _)); refine zu (cs := #[.string (⟨#[]⟩ : ByteArray), .int .i64 0, .int .i64 0, .int .i64 0, .slice none 0 0]) ?_ 0 _ rfl; (with_reducible repeat (first | refine zd ?_ _ | refine zg ?_ | refine ze ?_ _)); exact BK317.out) : p := h
theorem zH1 {p : Prop} (h : p := by refine (zap (e := 72) (base := w.heap.size) (ok := fun k_ => (((((some k_ ≠ (.slice Ao8 t370.length co8 : Value).ownBlock ∧ some k_ ≠ (.slice Ao14 t372.length co14 : Value).ownBlock) ∧ some k_ ≠ (.slice Ao12 t379.length co12 : Value).ownBlock) ∧ k_ ≠ gb384) ∧ some k_ ≠ (.slice Ao17 t385.length co17 : Value).ownBlock) ∧ k_ ≠ gb391)) (n := t371.length) (c := co9) ?_).2.2; exact (by (with_reducible repeat (first | apply zw | apply zx | apply zy)); exact (zai (zay (p := ⟨gb391, 1, none⟩) (zay (p := ⟨gb391, 0, none⟩) (zai HO376.out (fun k_ hk => (⟨hk, hk.2⟩ : _ ∧ k_ ≠ gb391))) (fun _ hk => hk.2) (.slice Ao17 t385.length co17)) (fun _ hk => hk.2) (.int .i64 t388)) (fun _ h_ => h_.1)))) : p := h
theorem zH2 {p : Prop} (h : p := by (with_reducible repeat (first | refine zd ?_ _ | refine zg ?_ | refine ze ?_ _)); refine zu (cs := #[.int .i64 ((rd_T139 l0 x20_2).f0), .int .i64 ((rd_T139 l0 x20_2).f1), .string (⟨#[]⟩ : ByteArray)]) ?_ 2 _ rfl; (with_reducible repeat (first | refine zd ?_ _ | refine zg ?_ | refine ze ?_ _)); refine zu (cs := #[.int .i64 ((rd_T139 l0 x20_2).f0), .int .i64 0, .string (⟨#[]⟩ : ByteArray)]) ?_ 1 _ rfl; (with_reducible repeat (first | refine zd ?_ _ | refine zg ?_ | refine ze ?_ _)); refine zu (cs := #[.int .i64 0, .int .i64 0, .string (⟨#[]⟩ : ByteArray)]) ?_ 0 _ rfl; (with_reducible repeat (first | refine zd ?_ _ | refine zg ?_ | refine ze ?_ _)); exact BK232.out) : p := h
theorem zH3 {p : Prop} (h : p := by (with_reducible repeat (first | refine zd ?_ _ | refine zg ?_ | refine ze ?_ _)); refine zu (cs := #[.int .i64 ((rd_T139 l0 x5_2).f0), .int .i64 ((rd_T139 l0 x5_2).f1), .string (⟨#[]⟩ : ByteArray)]) ?_ 2 _ rfl; (with_reducible repeat (first | refine zd ?_ _ | refine zg ?_ | refine ze ?_ _)); refine zu (cs := #[.int .i64 ((rd_T139 l0 x5_2).f0), .int .i64 0, .string (⟨#[]⟩ : ByteArray)]) ?_ 1 _ rfl; (with_reducible repeat (first | refine zd ?_ _ | refine zg ?_ | refine ze ?_ _)); refine zu (cs := #[.int .i64 0, .int .i64 0, .string (⟨#[]⟩ : ByteArray)]) ?_ 0 _ rfl; (with_reducible repeat (first | refine zd ?_ _ | refine zg ?_ | refine ze ?_ _)); exact BK313.out) : p := h
theorem zH4 {p : Prop} (h : p := by exact ⟨_, by first | rfl | (simp [errW_none, errW_some] <;> rfl) | (simp [*, errW_none, errW_some] <;> rfl), by (with_reducible repeat (first | apply zl | apply zm | apply zn)); exact HO_5000.out, zG110, zG111, by repeat (first | (with_reducible first | exact HB.out | apply zi | apply zc | apply zh | refine zf ?_ GE1.out | refine zf ?_ GE2.out | refine zf ?_ GE3.out | refine zf ?_ GE4.out | refine zf ?_ GE5.out) | exact HB.out), by repeat (first | (with_reducible first | exact HK.out | apply Kept.alloc | apply Kept.drewN | apply Kept.drew | refine Kept.setCell ?_ (.inl (Or.inl (Or.inr rfl))) _ | refine Kept.setCell ?_ (.inl (Or.inr rfl)) _) | exact HK.out)⟩) : p := h
theorem zH5 {p : Prop} (h : p := by exact ⟨by first | rfl | (simp [errW_none, errW_some] <;> rfl) | (simp [*, errW_none, errW_some] <;> rfl), by repeat (first | (with_reducible first | exact HI0.out | apply IsS168.alloc | apply IsS168.drewN | apply IsS168.drew | apply IsS168.set_1 | apply IsS168.set_2) | exact HI0.out), by repeat (first | (with_reducible first | exact HB.out | apply zi | apply zc | apply zh | refine zf ?_ (IsS168.ge HI0.out)) | exact HB.out), by repeat (first | (with_reducible first | exact HK.out | apply zaz | apply keep_drewN | apply keep_drew | apply keep_alloc) | exact HK.out)⟩) : p := h
theorem zH6 {p : Prop} (h : p := by exact ⟨by first | rfl | (simp; done), by repeat (first | (with_reducible first | exact HI0.out | apply IsS168.alloc | apply IsS168.drewN | apply IsS168.drew | apply IsS168.set_1 | apply IsS168.set_2) | exact HI0.out), by repeat (first | (with_reducible first | exact HB.out | apply zi | apply zc | apply zh | refine zf ?_ HG0) | exact HB.out), by repeat (first | (with_reducible first | exact HK.out | apply keep_alloc | apply keep_drewN | apply keep_drew | apply zaz) | exact HK.out)⟩) : p := h
theorem zH7 {p : Prop} (h : p := by exact zbk k139_heap HR0.out (by repeat (first | (with_reducible first | exact HB.out | apply zi | apply zc | apply zh | refine zf ?_ GE283.out | refine zf ?_ GE284.out | refine zf ?_ GE285.out | refine zf ?_ GE289.out | refine zf ?_ GE290.out | refine zf ?_ GE291.out) | exact HB.out)) (fun k_ hs_ => Or.elim hs_ (fun hs_ => Or.elim hs_ (fun hs_ => (fun e_ => by simp [Value.ownBlock] at e_) hs_) (fun e_ => (by rw [e_]; exact GW290.out))) (fun e_ => (by rw [e_]; exact GW289.out)))) : p := h
theorem zH8 {p : Prop} (h : p := by exact zbk k72_heap HR1.out (by repeat (first | (with_reducible first | exact HB.out | apply zi | apply zc | apply zh | refine zf ?_ GE283.out | refine zf ?_ GE284.out | refine zf ?_ GE285.out | refine zf ?_ GE289.out | refine zf ?_ GE290.out | refine zf ?_ GE291.out) | exact HB.out)) (fun k_ hs_ => Or.elim hs_ (fun hs_ => Or.elim hs_ (fun hs_ => (fun e_ => by simp [Value.ownBlock] at e_) hs_) (fun e_ => (by rw [e_]; exact GW290.out))) (fun e_ => (by rw [e_]; exact GW289.out)))) : p := h
theorem zH9 {p : Prop} (h : p := by exact (fun k_ hk => ⟨(.inr (Nat.le_trans (by first | exact HK.out.1 | exact (show Kept w _ (fun k_ => (P0_2_ k_ ∨ P1_ k_) ∨ k_ = gi0) from by repeat (first | (with_reducible first | exact HK.out | apply Kept.alloc | apply Kept.drewN | apply Kept.drew | refine Kept.setCell ?_ (.inl (Or.inr rfl)) _) | exact HK.out)).1) hk)), Kd.fresh' (zaf zG116) k_ hk, Kd.fresh' (zaf (by (with_reducible repeat (first | apply zl | apply zm | apply zn)); exact HO_1002.out)) k_ hk⟩)) : p := h
theorem zH10 {p : Prop} (h : p := by exact (fun k_ hk => ⟨Kd.fresh' (zaf zG118) k_ hk, Kd.fresh' (zaf zG112) k_ hk, Kd.fresh' (zaf zG113) k_ hk, Kd.fresh' (zaf zG115) k_ hk, Kd.freshB (g := gb384) (o := .cells #[.slice Ao12 t379.length co12, .int .i64 t382] 64 (0, 0)) zG107 k_ hk, Kd.freshB (g := gb391) (o := .cells #[.slice Ao17 t385.length co17, .int .i64 t388] 64 (0, 0)) zG108 k_ hk, Kd.freshB (g := gb405) (o := .cells #[.slice Ao106 t399.length co106, .int .i64 t402] 64 (0, 0)) zG109 k_ hk⟩)) : p := h
theorem zH11 {p : Prop} (h : p := by exact (fun k_ hk => ⟨Kd.fresh' (zaf zG118) k_ hk, Kd.fresh' (zaf zG112) k_ hk, Kd.fresh' (zaf zG113) k_ hk, Kd.fresh' (zaf zG115) k_ hk, Kd.freshB (g := gb384) (o := .cells #[.slice Ao12 t379.length co12, .int .i64 t382] 64 (0, 0)) zG107 k_ hk, Kd.freshB (g := gb391) (o := .cells #[.slice Ao17 t385.length co17, .int .i64 t388] 64 (0, 0)) zG108 k_ hk, Kd.freshB (g := gb405) (o := .cells #[.slice Ao131 t399.length co131, .int .i64 t402] 64 (0, 0)) zG109 k_ hk⟩)) : p := h
theorem zH12 {p : Prop} (h : p := by exact (fun k_ hk => ⟨Kd.fresh' (zaf zG118) k_ hk, Kd.fresh' (zaf zG112) k_ hk, Kd.fresh' (zaf zG113) k_ hk, Kd.fresh' (zaf zG115) k_ hk, Kd.freshB (g := gb384) (o := .cells #[.slice Ao12 t379.length co12, .int .i64 t382] 64 (0, 0)) zG107 k_ hk, Kd.freshB (g := gb391) (o := .cells #[.slice Ao17 t385.length co17, .int .i64 t388] 64 (0, 0)) zG108 k_ hk, Kd.freshB (g := gb405) (o := .cells #[.slice Ao51 t399.length co51, .int .i64 t402] 64 (0, 0)) zG109 k_ hk⟩)) : p := h
theorem zH13 {p : Prop} (h : p := by exact (fun k_ hk => ⟨Kd.fresh' (zaf zG118) k_ hk, Kd.fresh' (zaf zG112) k_ hk, Kd.fresh' (zaf zG113) k_ hk, Kd.fresh' (zaf zG115) k_ hk, Kd.freshB (g := gb384) (o := .cells #[.slice Ao12 t379.length co12, .int .i64 t382] 64 (0, 0)) zG107 k_ hk, Kd.freshB (g := gb391) (o := .cells #[.slice Ao17 t385.length co17, .int .i64 t388] 64 (0, 0)) zG108 k_ hk, Kd.freshB (g := gb405) (o := .cells #[.slice Ao77 t399.length co77, .int .i64 t402] 64 (0, 0)) zG109 k_ hk⟩)) : p := h
theorem zH14 {p : Prop} (h : p := by exact ⟨_, by first | rfl | (simp [errW_none, errW_some] <;> rfl) | (simp [*, errW_none, errW_some] <;> rfl), by first | exact zbi _ _ _ _ _ | exact zbq _ _ _ _ _ | exact zbr _ _ _ _ _ | exact zbs _ _ _ _ _ | exact zbt _ _ _ _ _, by repeat (first | (with_reducible first | exact HB.out | apply zi | apply zc | apply zh | refine zf ?_ GE283.out | refine zf ?_ GE284.out | refine zf ?_ GE285.out) | exact HB.out)⟩) : p := h
theorem zH15 {p : Prop} (h : p := by exact zbk k139_heap HR0.out (by repeat (first | (with_reducible first | exact HB.out | apply zi | apply zc | apply zh | refine zf ?_ GE359.out | refine zf ?_ GE361.out) | exact HB.out)) (fun k_ hs_ => Or.elim hs_ (fun hs_ => Or.elim hs_ (fun e_ => (fun e_ => by simp [Value.ownBlock] at e_) e_) (fun e_ => (fun e_ => zag HO364.out k_ e_.symm) e_)) (fun e_ => (by rw [e_]; exact GW361.out)))) : p := h
theorem zH16 {p : Prop} (h : p := by exact zbk k72_heap HR1.out (by repeat (first | (with_reducible first | exact HB.out | apply zi | apply zc | apply zh | refine zf ?_ GE359.out | refine zf ?_ GE361.out) | exact HB.out)) (fun k_ hs_ => Or.elim hs_ (fun hs_ => Or.elim hs_ (fun e_ => (fun e_ => by simp [Value.ownBlock] at e_) e_) (fun e_ => (fun e_ => zag HO364.out k_ e_.symm) e_)) (fun e_ => (by rw [e_]; exact GW361.out)))) : p := h
theorem zH17 {p : Prop} (h : p := by refine (zad (e := 139) (base := w.heap.size) (ok := fun k_ => True) (n := t370.length) (c := co8) ?_).2.2; exact (by (with_reducible repeat (first | apply zl | apply zm | apply zn)); exact (zt (zs (p := ⟨gb391, 1, none⟩) (zs (p := ⟨gb391, 0, none⟩) (zv HO374.out BK391.out zG131) (fun _ hk => hk.2) (.slice Ao17 t385.length co17)) (fun _ hk => hk.2) (.int .i64 t388)) (fun _ h_ => h_.1)))) : p := h
theorem zH18 {p : Prop} (h : p := by exact ⟨_, by first | rfl | (simp [errW_none, errW_some] <;> rfl) | (simp [*, errW_none, errW_some] <;> rfl), by first | exact zbi _ _ _ _ _ | exact zbq _ _ _ _ _ | exact zbr _ _ _ _ _ | exact zbs _ _ _ _ _ | exact zbt _ _ _ _ _, by repeat (first | (with_reducible first | exact HB.out | apply zi | apply zc | apply zh | refine zf ?_ GE359.out) | exact HB.out)⟩) : p := h
theorem zH19 {p : Prop} (h : p := by exact ⟨_, by first | rfl | (simp [errW_none, errW_some] <;> rfl) | (simp [*, errW_none, errW_some] <;> rfl), by first | exact zbi _ _ _ _ _ | exact zbq _ _ _ _ _ | exact zbr _ _ _ _ _ | exact zbs _ _ _ _ _ | exact zbt _ _ _ _ _, by repeat (first | (with_reducible first | exact HB.out | apply zi | apply zc | apply zh | refine zf ?_ GE297.out) | exact HB.out)⟩) : p := h
theorem zH20 {p : Prop} (h : p := by exact ⟨by first | rfl | (simp [errW_none, errW_some] <;> rfl) | (simp [*, errW_none, errW_some] <;> rfl), by repeat (first | (with_reducible first | exact HB.out | apply zi | apply zc | apply zh | refine zf ?_ GE384.out | refine zf ?_ GE391.out | refine zf ?_ GE405.out | refine zf ?_ GE423.out) | exact HB.out)⟩) : p := h
theorem zH21 {p : Prop} (h : p := by exact ⟨by first | rfl | (simp [errW_none, errW_some] <;> rfl) | (simp [*, errW_none, errW_some] <;> rfl), by repeat (first | (with_reducible first | exact HB.out | apply zi | apply zc | apply zh | refine zf ?_ GE384.out | refine zf ?_ GE391.out | refine zf ?_ GE405.out | refine zf ?_ GE441.out) | exact HB.out)⟩) : p := h
theorem zH22 {p : Prop} (h : p := by repeat (first | (with_reducible first | exact HI138.out | apply IsS168.alloc | apply IsS168.drewN | apply IsS168.drew | apply IsS168.set_1 | apply IsS168.set_2 | refine IsS168.far ?_ (IsS168.ne_blk HI138.out BK182.out zG131) _ | refine IsS168.far ?_ NB138_182.out _) | exact HI138.out)) : p := h
theorem zH23 {p : Prop} (h : p := by exact ⟨by first | rfl | (simp [errW_none, errW_some] <;> rfl) | (simp [*, errW_none, errW_some] <;> rfl), by repeat (first | (with_reducible first | exact HB.out | apply zi | apply zc | apply zh | refine zf ?_ GE384.out | refine zf ?_ GE391.out | refine zf ?_ GE405.out) | exact HB.out)⟩) : p := h
theorem zH24 {p : Prop} (h : p := by repeat (first | (with_reducible first | exact HI138.out | apply IsS168.alloc | apply IsS168.drewN | apply IsS168.drew | apply IsS168.set_1 | apply IsS168.set_2 | refine IsS168.far ?_ (IsS168.ne_blk HI138.out BK182.out zG131) _ | refine IsS168.far ?_ NB138_182.out _) | exact HI138.out)) : p := h
theorem zH25 {p : Prop} (h : p := by exact ⟨by first | rfl | (simp [errW_none, errW_some] <;> rfl) | (simp [*, errW_none, errW_some] <;> rfl), by repeat (first | (with_reducible first | exact HB.out | apply zi | apply zc | apply zh | refine zf ?_ GE257.out | refine zf ?_ GE258.out) | exact HB.out)⟩) : p := h
theorem zH26 {p : Prop} (h : p := by repeat (first | (with_reducible first | exact HB.out | apply zi | apply zc | apply zh | refine zf ?_ GE283.out | refine zf ?_ GE284.out | refine zf ?_ GE285.out | refine zf ?_ GE289.out | refine zf ?_ GE290.out | refine zf ?_ GE291.out) | exact HB.out)) : p := h
theorem zH27 {p : Prop} (h : p := by repeat (first | (with_reducible first | exact HB.out | apply zi | apply zc | apply zh | refine zf ?_ GE283.out | refine zf ?_ GE284.out | refine zf ?_ GE285.out | refine zf ?_ GE289.out | refine zf ?_ GE290.out | refine zf ?_ GE291.out) | exact HB.out)) : p := h
theorem zH28 {p : Prop} (h : p := by exact ⟨by first | rfl | (simp [errW_none, errW_some] <;> rfl) | (simp [*, errW_none, errW_some] <;> rfl), by repeat (first | (with_reducible first | exact HB.out | apply zi | apply zc | apply zh | refine zf ?_ GE317.out) | exact HB.out)⟩) : p := h
theorem zH29 {p : Prop} (h : p := by exact ⟨by first | rfl | (simp [errW_none, errW_some] <;> rfl) | (simp [*, errW_none, errW_some] <;> rfl), by repeat (first | (with_reducible first | exact HB.out | apply zi | apply zc | apply zh | refine zf ?_ GE232.out) | exact HB.out)⟩) : p := h
theorem zH30 {p : Prop} (h : p := by exact ⟨by first | rfl | (simp [errW_none, errW_some] <;> rfl) | (simp [*, errW_none, errW_some] <;> rfl), by repeat (first | (with_reducible first | exact HB.out | apply zi | apply zc | apply zh | refine zf ?_ GE332.out) | exact HB.out)⟩) : p := h
theorem zH31 {p : Prop} (h : p := by exact ⟨by first | rfl | (simp [errW_none, errW_some] <;> rfl) | (simp [*, errW_none, errW_some] <;> rfl), by repeat (first | (with_reducible first | exact HB.out | apply zi | apply zc | apply zh | refine zf ?_ GE225.out) | exact HB.out)⟩) : p := h
theorem zH32 {p : Prop} (h : p := by repeat (first | (with_reducible first | exact HK.out | apply Kept.alloc | apply Kept.drewN | apply Kept.drew | refine Kept.setCell ?_ (.inl (Or.inl (Or.inr rfl))) _ | refine Kept.setCell ?_ (.inl (Or.inr rfl)) _) | exact HK.out)) : p := h
theorem zH33 {p : Prop} (h : p := by repeat (first | (with_reducible first | exact HB.out | apply zi | apply zc | apply zh | refine zf ?_ GE1.out | refine zf ?_ GE2.out | refine zf ?_ GE3.out | refine zf ?_ GE4.out | refine zf ?_ GE5.out) | exact HB.out)) : p := h
theorem zH34 {p : Prop} (h : p := by exact (by (with_reducible repeat (first | apply zw | apply zx | apply zy)); exact zai HO411.out (fun _ hk => ⟨hk.1.1, ⟨hk.1.2.1, ⟨hk.1.2.2.1, ⟨hk.1.2.2.2.1, ⟨hk.1.2.2.2.2.1, ⟨hk.1.2.2.2.2.2.1, hk.1.2.2.2.2.2.2⟩⟩⟩⟩⟩⟩))) : p := h
theorem zH35 {p : Prop} (h : p := by exact (by (with_reducible repeat (first | apply zw | apply zx | apply zy)); exact zai HO429.out (fun _ hk => ⟨hk.1.1, ⟨hk.1.2.1, ⟨hk.1.2.2.1, ⟨hk.1.2.2.2.1, ⟨hk.1.2.2.2.2.1, ⟨hk.1.2.2.2.2.2.1, hk.1.2.2.2.2.2.2⟩⟩⟩⟩⟩⟩))) : p := h
theorem zH36 {p : Prop} (h : p := by exact (by (with_reducible repeat (first | apply zw | apply zx | apply zy)); exact zai HO408.out (fun _ hk => ⟨hk.1, ⟨hk.2.2.1, ⟨hk.2.2.2.1, ⟨hk.2.2.2.2.1, ⟨hk.2.2.2.2.2.1, ⟨hk.2.2.2.2.2.2.1, hk.2.2.2.2.2.2.2⟩⟩⟩⟩⟩⟩))) : p := h
theorem zH37 {p : Prop} (h : p := by exact (by (with_reducible repeat (first | apply zw | apply zx | apply zy)); exact zai HO426.out (fun _ hk => ⟨hk.1, ⟨hk.2.2.1, ⟨hk.2.2.2.1, ⟨hk.2.2.2.2.1, ⟨hk.2.2.2.2.2.1, ⟨hk.2.2.2.2.2.2.1, hk.2.2.2.2.2.2.2⟩⟩⟩⟩⟩⟩))) : p := h
theorem zH38 {p : Prop} (h : p := by exact ⟨by first | rfl | (simp [errW_none, errW_some] <;> rfl) | (simp [*, errW_none, errW_some] <;> rfl), by repeat (first | (with_reducible first | exact HB.out | apply zi | apply zc | apply zh) | exact HB.out)⟩) : p := h
theorem zH39 {p : Prop} (h : p := by repeat (first | (with_reducible first | exact HI138.out | apply IsS168.alloc | apply IsS168.drewN | apply IsS168.drew | apply IsS168.set_1 | apply IsS168.set_2) | exact HI138.out)) : p := h
theorem zH40 {p : Prop} (h : p := by exact (zo (by repeat (first | (with_reducible first | exact HB.out | apply zi | apply zc | apply zh | refine zf ?_ (IsS168.ge HI138.out) | refine zf ?_ GE182.out) | exact HB.out)))) : p := h
theorem zH41 {p : Prop} (h : p := by repeat (first | (with_reducible first | exact HB.out | apply zi | apply zc | apply zh | refine zf ?_ GE283.out | refine zf ?_ GE284.out | refine zf ?_ GE285.out) | exact HB.out)) : p := h
theorem zH42 {p : Prop} (h : p := by repeat (first | (with_reducible first | exact HI138.out | apply IsS168.alloc | apply IsS168.drewN | apply IsS168.drew | apply IsS168.set_1 | apply IsS168.set_2) | exact HI138.out)) : p := h
theorem zH43 {p : Prop} (h : p := by repeat (first | (with_reducible first | exact HI0.out | apply IsS168.alloc | apply IsS168.drewN | apply IsS168.drew | apply IsS168.set_1 | apply IsS168.set_2) | exact HI0.out)) : p := h
theorem zH44 {p : Prop} (h : p := by exact (by repeat (first | (with_reducible first | exact HB.out | apply zi | apply zc | apply zh | refine zf ?_ (IsS168.ge HI138.out) | refine zf ?_ GE182.out) | exact HB.out))) : p := h
theorem zH45 {p : Prop} (h : p := by repeat (first | (with_reducible first | exact HI0.out | apply IsS168.alloc | apply IsS168.drewN | apply IsS168.drew | apply IsS168.set_1 | apply IsS168.set_2) | exact HI0.out)) : p := h
theorem zH46 {p : Prop} (h : p := by repeat (first | (with_reducible first | exact HK.out | apply Kept.alloc | apply Kept.drewN | apply Kept.drew | refine Kept.setCell ?_ (.inl (Or.inr rfl)) _) | exact HK.out)) : p := h
theorem zH47 {p : Prop} (h : p := by repeat (first | (with_reducible first | exact HB.out | apply zi | apply zc | apply zh | refine zf ?_ (IsS168.ge HI138.out) | refine zf ?_ GE182.out) | exact HB.out)) : p := h
theorem zH48 {p : Prop} (h : p := by exact ⟨by first | rfl | (simp; done) | (simp only [← hji25] <;> (first | rfl | simp)) | (simp [*]; done), by repeat (first | exact Drawn0.refl _ | apply Drawn0.step)⟩) : p := h
theorem zH49 {p : Prop} (h : p := by exact (Reps.one (show Kd.M (Kd.int .u8) _ _ _ ((wrap64 (48 + (Int.tmod a0 10))) % 256) [.int .u8 ((wrap64 (48 + (Int.tmod a0 10))) % 256)] from rfl) (Reps.none _ _))) : p := h
theorem zH50 {p : Prop} (h : p := by repeat (first | (with_reducible first | exact HB.out | apply zi | apply zc | apply zh | refine zf ?_ (IsS168.ge HI138.out) | refine zf ?_ GE182.out) | exact HB.out)) : p := h
theorem zH51 {p : Prop} (h : p := by (with_reducible repeat (first | apply zw | apply zx | apply zy)); exact zai HO376.out (fun _ hk => ⟨hk.1.1.1.1.1, ⟨hk.1.1.1.2, ⟨hk.1.2, ⟨hk.1.1.2, hk.2⟩⟩⟩⟩)) : p := h
theorem zH52 {p : Prop} (h : p := by repeat (first | (with_reducible first | exact HB.out | apply zi | apply zc | apply zh | refine zf ?_ GE359.out | refine zf ?_ GE361.out) | exact HB.out)) : p := h
theorem zH53 {p : Prop} (h : p := by repeat (first | (with_reducible first | exact HB.out | apply zi | apply zc | apply zh | refine zf ?_ GE384.out | refine zf ?_ GE391.out) | exact HB.out)) : p := h
theorem zH54 {p : Prop} (h : p := by exact (Reps.one (show Kd.M Kd.string _ _ _ (⟨#[116, 105, 108, 108]⟩ : ByteArray) [.string (⟨#[116, 105, 108, 108]⟩ : ByteArray)] from rfl) (Reps.none _ _))) : p := h
theorem zH55 {p : Prop} (h : p := by repeat (first | (with_reducible first | exact HB.out | apply zi | apply zc | apply zh | refine zf ?_ GE257.out | refine zf ?_ GE258.out) | exact HB.out)) : p := h
theorem zH56 {p : Prop} (h : p := by exact zah HR238_4.out (by repeat (first | (with_reducible first | exact HB.out | apply zi | apply zc | apply zh | refine zf ?_ GE239.out) | exact HB.out))) : p := h
theorem zH57 {p : Prop} (h : p := by exact zah HR331_4.out (by repeat (first | (with_reducible first | exact HB.out | apply zi | apply zc | apply zh | refine zf ?_ GE332.out) | exact HB.out))) : p := h
theorem zH58 {p : Prop} (h : p := by repeat (first | (with_reducible first | exact HB.out | apply zi | apply zc | apply zh | refine zf ?_ GE359.out | refine zf ?_ GE361.out) | exact HB.out)) : p := h
theorem zH59 {p : Prop} (h : p := by repeat (first | exact (zah HR256_4.out HB.out) | (with_reducible refine zaa ?_ _) | (with_reducible refine zab ?_ _) | (with_reducible refine zac ?_))) : p := h
theorem zH60 {p : Prop} (h : p := by repeat (first | exact (zad HO_385000.out).2.2 | (with_reducible refine zaa ?_ _) | (with_reducible refine zab ?_ _) | (with_reducible refine zac ?_))) : p := h
theorem zH61 {p : Prop} (h : p := by repeat (first | exact (zah HR2.out HB.out) | (with_reducible refine zaa ?_ _) | (with_reducible refine zab ?_ _) | (with_reducible refine zac ?_))) : p := h
theorem zH62 {p : Prop} (h : p := by repeat (first | exact (zah HR1.out HB.out) | (with_reducible refine zaa ?_ _) | (with_reducible refine zab ?_ _) | (with_reducible refine zac ?_))) : p := h
theorem zH63 {p : Prop} (h : p := by repeat (first | exact (zah HR0.out HB.out) | (with_reducible refine zaa ?_ _) | (with_reducible refine zab ?_ _) | (with_reducible refine zac ?_))) : p := h
theorem zH64 {p : Prop} (h : p := by repeat (first | exact (zad HO352.out).2.2 | (with_reducible refine zaa ?_ _) | (with_reducible refine zab ?_ _) | (with_reducible refine zac ?_))) : p := h
theorem zH65 {p : Prop} (h : p := by repeat (first | exact (zap HO417.out).2.2 | (with_reducible refine zaa ?_ _) | (with_reducible refine zab ?_ _) | (with_reducible refine zac ?_))) : p := h
theorem zH66 {p : Prop} (h : p := by repeat (first | exact (zap HO435.out).2.2 | (with_reducible refine zaa ?_ _) | (with_reducible refine zab ?_ _) | (with_reducible refine zac ?_))) : p := h
theorem zH67 {p : Prop} (h : p := by repeat (first | exact (zad HO_1.out).2.2 | (with_reducible refine zaa ?_ _) | (with_reducible refine zab ?_ _) | (with_reducible refine zac ?_))) : p := h
theorem zH68 {p : Prop} (h : p := by repeat (first | exact (zah HR1.out zG95) | (with_reducible refine zaa ?_ _) | (with_reducible refine zab ?_ _) | (with_reducible refine zac ?_))) : p := h
theorem zH69 {p : Prop} (h : p := by repeat (first | exact (zap HO_4.out).2.2 | (with_reducible refine zaa ?_ _) | (with_reducible refine zab ?_ _) | (with_reducible refine zac ?_))) : p := h
theorem zH70 {p : Prop} (h : p := by repeat (first | exact (zad HO_3.out).2.2 | (with_reducible refine zaa ?_ _) | (with_reducible refine zab ?_ _) | (with_reducible refine zac ?_))) : p := h
theorem zH71 {p : Prop} (h : p := by repeat (first | exact (zad HO1.out).2.2 | (with_reducible refine zaa ?_ _) | (with_reducible refine zab ?_ _) | (with_reducible refine zac ?_))) : p := h
theorem zH72 {p : Prop} (h : p := by repeat (first | (with_reducible first | exact HB.out | apply zi | apply zc | apply zh | refine zf ?_ (IsS168.ge HI138.out)) | exact HB.out)) : p := h
theorem zH73 {p : Prop} (h : p := by repeat (first | (with_reducible first | exact HB.out | apply zi | apply zc | apply zh | refine zf ?_ (IsS168.ge HI0.out)) | exact HB.out)) : p := h
theorem zH74 {p : Prop} (h : p := by repeat (first | (with_reducible first | exact HK.out | apply zaz | apply keep_drewN | apply keep_drew | apply keep_alloc) | exact HK.out)) : p := h
theorem zH75 {p : Prop} (h : p := by repeat (first | (with_reducible first | exact HB.out | apply zi | apply zc | apply zh | refine zf ?_ (IsS168.ge HI138.out)) | exact HB.out)) : p := h
theorem zH76 {p : Prop} (h : p := by repeat (first | (with_reducible first | exact HB.out | apply zi | apply zc | apply zh | refine zf ?_ (IsS168.ge HI0.out)) | exact HB.out)) : p := h
theorem zH77 {p : Prop} (h : p := by exact (by (with_reducible repeat (first | apply zl | apply zm | apply zn)); exact zt HO346.out (fun _ hk => ⟨hk.1.1.1, ⟨hk.1.2, hk.2⟩⟩))) : p := h
theorem zH78 {p : Prop} (h : p := by repeat (first | exact HR218.out | (with_reducible refine zaa ?_ _) | (with_reducible refine zab ?_ _) | (with_reducible refine zac ?_))) : p := h
theorem zH79 {p : Prop} (h : p := by repeat (first | exact HR0.out | (with_reducible refine zaa ?_ _) | (with_reducible refine zab ?_ _) | (with_reducible refine zac ?_))) : p := h
theorem zH80 {p : Prop} (h : p := by repeat (first | (with_reducible first | exact HB.out | apply zi | apply zc | apply zh | refine zf ?_ GE239.out) | exact HB.out)) : p := h
theorem zH81 {p : Prop} (h : p := by repeat (first | (with_reducible first | exact HB.out | apply zi | apply zc | apply zh | refine zf ?_ GE359.out) | exact HB.out)) : p := h
theorem zH82 {p : Prop} (h : p := by repeat (first | (with_reducible first | exact HB.out | apply zi | apply zc | apply zh | refine zf ?_ GE225.out) | exact HB.out)) : p := h
theorem zH83 {p : Prop} (h : p := by repeat (first | (with_reducible first | exact HB.out | apply zi | apply zc | apply zh | refine zf ?_ GE313.out) | exact HB.out)) : p := h
theorem zH84 {p : Prop} (h : p := by repeat (first | (with_reducible first | exact HB.out | apply zi | apply zc | apply zh | refine zf ?_ GE332.out) | exact HB.out)) : p := h
theorem zH85 {p : Prop} (h : p := by repeat (first | (with_reducible first | exact HB.out | apply zi | apply zc | apply zh | refine zf ?_ GE297.out) | exact HB.out)) : p := h
theorem zH86 {p : Prop} (h : p := by repeat (first | (with_reducible first | exact HB.out | apply zi | apply zc | apply zh | refine zf ?_ GE317.out) | exact HB.out)) : p := h
theorem zH87 {p : Prop} (h : p := by repeat (first | (with_reducible first | exact HB.out | apply zi | apply zc | apply zh | refine zf ?_ GE232.out) | exact HB.out)) : p := h
theorem zH88 {p : Prop} (h : p := by repeat (first | (with_reducible first | exact HB.out | apply zi | apply zc | apply zh | refine zf ?_ GE0.out) | exact HB.out)) : p := h
theorem zH89 {p : Prop} (h : p := by rw [← hq_]; exact (by (with_reducible repeat (first | refine zd ?_ _ | refine zg ?_ | refine ze ?_ _)); exact BK297.out)) : p := h
theorem zH90 {p : Prop} (h : p := by first | exact zbi _ _ _ _ _ | exact zbq _ _ _ _ _ | exact zbr _ _ _ _ _ | exact zbs _ _ _ _ _ | exact zbt _ _ _ _ _) : p := h
theorem zH91 {p : Prop} (h : p := by exact ⟨by first | rfl | (simp; done) | (simp [*]; done), by repeat (first | exact Drawn0.refl _ | apply Drawn0.step)⟩) : p := h
theorem zH92 {p : Prop} (h : p := by have := HJ2.out; have := HK2.out; have := HK3.out; have := HJ28.out; have := HK5.out; have := HK6.out; omega) : p := h
theorem zH93 {p : Prop} (h : p := by exact (by (with_reducible repeat (first | refine zd ?_ _ | refine zg ?_ | refine ze ?_ _)); exact BK289.out)) : p := h
theorem zH94 {p : Prop} (h : p := by exact (by (with_reducible repeat (first | refine zd ?_ _ | refine zg ?_ | refine ze ?_ _)); exact BK290.out)) : p := h
theorem zH95 {p : Prop} (h : p := by exact (by (with_reducible repeat (first | refine zd ?_ _ | refine zg ?_ | refine ze ?_ _)); exact BK291.out)) : p := h
theorem zH96 {p : Prop} (h : p := by exact (by (with_reducible repeat (first | refine zd ?_ _ | refine zg ?_ | refine ze ?_ _)); exact BK361.out)) : p := h
theorem zH97 {p : Prop} (h : p := by (with_reducible repeat (first | apply zl | apply zm | apply zn)); exact zt HO381.out (fun _ hk => hk.2)) : p := h
theorem zH98 {p : Prop} (h : p := by (with_reducible repeat (first | apply zl | apply zm | apply zn)); exact zt HO387.out (fun _ hk => hk.2)) : p := h
theorem zH99 {p : Prop} (h : p := by repeat (first | (with_reducible first | exact HB.out | apply zi | apply zc | apply zh) | exact HB.out)) : p := h
theorem zH100 {p : Prop} (h : p := by (with_reducible repeat (first | refine zd ?_ _ | refine zg ?_ | refine ze ?_ _)); exact BK257.out) : p := h
theorem zH101 {p : Prop} (h : p := by (with_reducible repeat (first | refine zd ?_ _ | refine zg ?_ | refine ze ?_ _)); exact BK258.out) : p := h
theorem zH102 {p : Prop} (h : p := by (with_reducible repeat (first | refine zd ?_ _ | refine zg ?_ | refine ze ?_ _)); exact BK332.out) : p := h
theorem zH103 {p : Prop} (h : p := by (with_reducible repeat (first | refine zd ?_ _ | refine zg ?_ | refine ze ?_ _)); exact BK384.out) : p := h
theorem zH104 {p : Prop} (h : p := by (with_reducible repeat (first | refine zd ?_ _ | refine zg ?_ | refine ze ?_ _)); exact BK391.out) : p := h
theorem zH105 {p : Prop} (h : p := by (with_reducible repeat (first | refine zd ?_ _ | refine zg ?_ | refine ze ?_ _)); exact BK317.out) : p := h
theorem zH106 {p : Prop} (h : p := by (with_reducible repeat (first | refine zd ?_ _ | refine zg ?_ | refine ze ?_ _)); exact BK297.out) : p := h
theorem zH107 {p : Prop} (h : p := by (with_reducible repeat (first | refine zd ?_ _ | refine zg ?_ | refine ze ?_ _)); exact BK0.out) : p := h
theorem zH108 {p : Prop} (h : p := by (with_reducible repeat (first | refine zd ?_ _ | refine zg ?_ | refine ze ?_ _)); exact BK1.out) : p := h
theorem zH109 {p : Prop} (h : p := by (with_reducible repeat (first | refine zd ?_ _ | refine zg ?_ | refine ze ?_ _)); exact BK2.out) : p := h
theorem zH110 {p : Prop} (h : p := by (with_reducible repeat (first | refine zd ?_ _ | refine zg ?_ | refine ze ?_ _)); exact BK3.out) : p := h
theorem zH111 {p : Prop} (h : p := by (with_reducible repeat (first | refine zd ?_ _ | refine zg ?_ | refine ze ?_ _)); exact BK4.out) : p := h
theorem zH112 {p : Prop} (h : p := by (with_reducible repeat (first | refine zd ?_ _ | refine zg ?_ | refine ze ?_ _)); exact BK5.out) : p := h
theorem zH113 {p : Prop} (h : p := by first | rfl | (simp [errW_none, errW_some] <;> rfl) | (simp [*, errW_none, errW_some] <;> rfl)) : p := h
theorem zH114 {p : Prop} (h : p := by have := HJ2.out; have := HK2.out; have := HK3.out; first | omega | exact Nat.le_refl _) : p := h
theorem zH115 {p : Prop} (h : p := by (with_reducible repeat (first | apply zau | apply zav | apply zax)); exact HO_9.out) : p := h
theorem zH116 {p : Prop} (h : p := by (with_reducible repeat (first | apply zl | apply zm | apply zn)); exact HO_5000.out) : p := h
theorem zH117 {p : Prop} (h : p := by (with_reducible repeat (first | apply zl | apply zm | apply zn)); exact HO374.out) : p := h
theorem zH118 {p : Prop} (h : p := by (with_reducible repeat (first | apply zl | apply zm | apply zn)); exact HO_6.out) : p := h
theorem zH119 {p : Prop} (h : p := by have := HJ2.out; have := HK2.out; first | omega | exact Nat.le_refl _) : p := h
theorem zH120 {p : Prop} (h : p := by repeat (first | exact Drawn0.refl _ | apply Drawn0.step)) : p := h
theorem zH121 {p : Prop} (h : p := by have := HJ5.out; first | omega | exact Nat.le_refl _) : p := h
theorem zH122 {p : Prop} (h : p := by have := HK1.out; first | omega | exact Nat.le_refl _) : p := h
theorem zH123 {p : Prop} (h : p := by intro k_ e_ e2_; simp [Value.ownBlock] at e_ e2_) : p := h
theorem zH124 {p : Prop} (h : p := by have := HK1.out; have := HJ4.out; omega) : p := h
theorem zH125 {p : Prop} (h : p := by first | (go_simp; done) | (go_simp; rfl)) : p := h
theorem zH126 {p : Prop} (h : p := by first | omega | exact Nat.le_refl _) : p := h
theorem zH127 {p : Prop} (h : p := by exact (zad HO_385000.out).2.1) : p := h
theorem zH128 {p : Prop} (h : p := by have := HK1.out; omega) : p := h
theorem zH129 {p : Prop} (h : p := by exact (zap HO_4.out).2.1) : p := h
theorem zH130 {p : Prop} (h : p := by exact (zad HO_3.out).2.1) : p := h
theorem zH131 {p : Prop} (h : p := by exact (Reps.none _ _)) : p := h
theorem zK132 {p : Prop} (h : p := by (with_reducible repeat (first | refine zd ?_ _ | refine zg ?_ | refine ze ?_ _)); refine zu (cs := #[.string ((⟨#[119]⟩ : ByteArray) ++ t169), .int .i64 (wrap64 (60 + t170)), .int .i64 (wrap64 (15 * t173)), .int .i64 (wrap64 (1 + t176)), .slice none 0 0]) ?_ 4 _ rfl; (with_reducible repeat (first | refine zd ?_ _ | refine zg ?_ | refine ze ?_ _)); refine zu (cs := #[.string ((⟨#[119]⟩ : ByteArray) ++ t169), .int .i64 (wrap64 (60 + t170)), .int .i64 (wrap64 (15 * t173)), .int .i64 0, .slice none 0 0]) ?_ 3 _ rfl; (with_reducible repeat (first | refine zd ?_ _ | refine zg ?_ | refine ze ?_ _)); refine zu (cs := #[.string ((⟨#[119]⟩ : ByteArray) ++ t169), .int .i64 (wrap64 (60 + t170)), .int .i64 0, .int .i64 0, .slice none 0 0]) ?_ 2 _ rfl; (with_reducible repeat (first | refine zd ?_ _ | refine zg ?_ | refine ze ?_ _)); refine zu (cs := #[.string ((⟨#[119]⟩ : ByteArray) ++ t169), .int .i64 0, .int .i64 0, .int .i64 0, .slice none 0 0]) ?_ 1 _ rfl; (with_reducible repeat (first | refine zd ?_ _ | refine zg ?_ | refine ze ?_ _)); refine zu (cs := #[.string (⟨#[]⟩ : ByteArray), .int .i64 0, .int .i64 0, .int .i64 0, .slice none 0 0]) ?_ 0 _ rfl; (with_reducible repeat (first | refine zd ?_ _ | refine zg ?_ | refine ze ?_ _)); exact BK182.out) : p := h
theorem zK133 {p : Prop} (h : p := by (with_reducible repeat (first | refine zd ?_ _ | refine zg ?_ | refine ze ?_ _)); refine zu (cs := #[.string ((rd_T72 l1 x65_3).f0), .int .i64 ((rd_T72 l1 x65_3).f1), .int .i64 ((rd_T72 l1 x65_3).f2), .int .i64 ((rd_T72 l1 x65_3).f3), .slice none 0 0]) ?_ 4 _ rfl; (with_reducible repeat (first | refine zd ?_ _ | refine zg ?_ | refine ze ?_ _)); refine zu (cs := #[.string ((rd_T72 l1 x65_3).f0), .int .i64 ((rd_T72 l1 x65_3).f1), .int .i64 ((rd_T72 l1 x65_3).f2), .int .i64 0, .slice none 0 0]) ?_ 3 _ rfl; (with_reducible repeat (first | refine zd ?_ _ | refine zg ?_ | refine ze ?_ _)); refine zu (cs := #[.string ((rd_T72 l1 x65_3).f0), .int .i64 ((rd_T72 l1 x65_3).f1), .int .i64 0, .int .i64 0, .slice none 0 0]) ?_ 2 _ rfl; (with_reducible repeat (first | refine zd ?_ _ | refine zg ?_ | refine ze ?_ _)); refine zu (cs := #[.string ((rd_T72 l1 x65_3).f0), .int .i64 0, .int .i64 0, .int .i64 0, .slice none 0 0]) ?_ 1 _ rfl; (with_reducible repeat (first | refine zd ?_ _ | refine zg ?_ | refine ze ?_ _)); refine zu (cs := #[.string (⟨#[]⟩ : ByteArray), .int .i64 0, .int .i64 0, .int .i64 0, .slice none 0 0]) ?_ 0 _ rfl; (with_reducible repeat (first | refine zd ?_ _ | refine zg ?_ | refine ze ?_ _)); exact BK239.out) : p := h
theorem zK134 {p : Prop} (h : p := by (with_reducible repeat (first | apply zl | apply zm | apply zn)); exact (zt (zs (p := ⟨gb239, 4, none⟩) (zs (p := ⟨gb239, 3, none⟩) (zs (p := ⟨gb239, 2, none⟩) (zs (p := ⟨gb239, 1, none⟩) (zs (p := ⟨gb239, 0, none⟩) (zv HO_7.out BK239.out zG131) (fun _ hk => hk.2) (.string ((rd_T72 l1 x65_3).f0))) (fun _ hk => hk.2) (.int .i64 ((rd_T72 l1 x65_3).f1))) (fun _ hk => hk.2) (.int .i64 ((rd_T72 l1 x65_3).f2))) (fun _ hk => hk.2) (.int .i64 ((rd_T72 l1 x65_3).f3))) (fun _ hk => hk.2) (.slice A238_4 ((rd_T72 l1 x65_3).f4).length c238_4)) (fun _ h_ => h_.1))) : p := h
theorem zK135 {p : Prop} (h : p := by (with_reducible repeat (first | refine zd ?_ _ | refine zg ?_ | refine ze ?_ _)); refine zz ?_ NB289_290.out _; (with_reducible repeat (first | refine zd ?_ _ | refine zg ?_ | refine ze ?_ _)); refine zu (cs := #[.slice none 0 0, .int .i64 0]) ?_ 1 _ rfl; (with_reducible repeat (first | refine zd ?_ _ | refine zg ?_ | refine ze ?_ _)); refine zu (cs := #[.slice none 0 0, .int .i64 0]) ?_ 0 _ rfl; (with_reducible repeat (first | refine zd ?_ _ | refine zg ?_ | refine ze ?_ _)); exact BK289.out) : p := h
theorem zK136 {p : Prop} (h : p := by (with_reducible repeat (first | refine zd ?_ _ | refine zg ?_ | refine ze ?_ _)); refine zu (cs := #[.bool false]) ?_ 0 _ rfl; (with_reducible repeat (first | refine zd ?_ _ | refine zg ?_ | refine ze ?_ _)); refine zz ?_ NB290_289.out _; (with_reducible repeat (first | refine zd ?_ _ | refine zg ?_ | refine ze ?_ _)); refine zz ?_ NB290_289.out _; (with_reducible repeat (first | refine zd ?_ _ | refine zg ?_ | refine ze ?_ _)); exact BK290.out) : p := h
theorem zK137 {p : Prop} (h : p := by (with_reducible repeat (first | refine zd ?_ _ | refine zg ?_ | refine ze ?_ _)); refine zz ?_ NB283_290.out _; (with_reducible repeat (first | refine zd ?_ _ | refine zg ?_ | refine ze ?_ _)); refine zz ?_ NB283_289.out _; (with_reducible repeat (first | refine zd ?_ _ | refine zg ?_ | refine ze ?_ _)); refine zz ?_ NB283_289.out _; (with_reducible repeat (first | refine zd ?_ _ | refine zg ?_ | refine ze ?_ _)); exact BK283.out) : p := h
theorem zK138 {p : Prop} (h : p := by (with_reducible repeat (first | refine zd ?_ _ | refine zg ?_ | refine ze ?_ _)); refine zz ?_ NB284_290.out _; (with_reducible repeat (first | refine zd ?_ _ | refine zg ?_ | refine ze ?_ _)); refine zz ?_ NB284_289.out _; (with_reducible repeat (first | refine zd ?_ _ | refine zg ?_ | refine ze ?_ _)); refine zz ?_ NB284_289.out _; (with_reducible repeat (first | refine zd ?_ _ | refine zg ?_ | refine ze ?_ _)); exact BK284.out) : p := h
theorem zK139 {p : Prop} (h : p := by (with_reducible repeat (first | refine zd ?_ _ | refine zg ?_ | refine ze ?_ _)); refine zz ?_ NB285_290.out _; (with_reducible repeat (first | refine zd ?_ _ | refine zg ?_ | refine ze ?_ _)); refine zz ?_ NB285_289.out _; (with_reducible repeat (first | refine zd ?_ _ | refine zg ?_ | refine ze ?_ _)); refine zz ?_ NB285_289.out _; (with_reducible repeat (first | refine zd ?_ _ | refine zg ?_ | refine ze ?_ _)); exact BK285.out) : p := h
theorem zK140 {p : Prop} (h : p := by (with_reducible repeat (first | refine zd ?_ _ | refine zg ?_ | refine ze ?_ _)); refine zu (cs := #[.slice none 0 0, .int .i64 x298001_2]) ?_ 1 _ rfl; (with_reducible repeat (first | refine zd ?_ _ | refine zg ?_ | refine ze ?_ _)); refine zu (cs := #[.slice none 0 0, .int .i64 x298001_2]) ?_ 0 _ rfl; (with_reducible repeat (first | refine zd ?_ _ | refine zg ?_ | refine ze ?_ _)); exact BK297.out) : p := h
theorem zK141 {p : Prop} (h : p := by (with_reducible repeat (first | refine zd ?_ _ | refine zg ?_ | refine ze ?_ _)); refine zu (cs := #[.slice Ao106 t399.length co106, .int .i64 0]) ?_ 1 _ rfl; (with_reducible repeat (first | refine zd ?_ _ | refine zg ?_ | refine ze ?_ _)); refine zu (cs := #[.slice none 0 0, .int .i64 0]) ?_ 0 _ rfl; (with_reducible repeat (first | refine zd ?_ _ | refine zg ?_ | refine ze ?_ _)); exact BK405.out) : p := h
theorem zK142 {p : Prop} (h : p := by (with_reducible repeat (first | refine zd ?_ _ | refine zg ?_ | refine ze ?_ _)); refine zu (cs := #[.slice Ao131 t399.length co131, .int .i64 0]) ?_ 1 _ rfl; (with_reducible repeat (first | refine zd ?_ _ | refine zg ?_ | refine ze ?_ _)); refine zu (cs := #[.slice none 0 0, .int .i64 0]) ?_ 0 _ rfl; (with_reducible repeat (first | refine zd ?_ _ | refine zg ?_ | refine ze ?_ _)); exact BK405.out) : p := h
theorem zK143 {p : Prop} (h : p := by (with_reducible repeat (first | refine zd ?_ _ | refine zg ?_ | refine ze ?_ _)); refine zu (cs := #[.slice Ao17 t385.length co17, .int .i64 0]) ?_ 1 _ rfl; (with_reducible repeat (first | refine zd ?_ _ | refine zg ?_ | refine ze ?_ _)); refine zu (cs := #[.slice none 0 0, .int .i64 0]) ?_ 0 _ rfl; (with_reducible repeat (first | refine zd ?_ _ | refine zg ?_ | refine ze ?_ _)); exact BK391.out) : p := h
theorem zK144 {p : Prop} (h : p := by (with_reducible repeat (first | refine zd ?_ _ | refine zg ?_ | refine ze ?_ _)); refine zu (cs := #[.slice Ao51 t399.length co51, .int .i64 0]) ?_ 1 _ rfl; (with_reducible repeat (first | refine zd ?_ _ | refine zg ?_ | refine ze ?_ _)); refine zu (cs := #[.slice none 0 0, .int .i64 0]) ?_ 0 _ rfl; (with_reducible repeat (first | refine zd ?_ _ | refine zg ?_ | refine ze ?_ _)); exact BK405.out) : p := h
theorem zK145 {p : Prop} (h : p := by (with_reducible repeat (first | refine zd ?_ _ | refine zg ?_ | refine ze ?_ _)); refine zu (cs := #[.slice Ao77 t399.length co77, .int .i64 0]) ?_ 1 _ rfl; (with_reducible repeat (first | refine zd ?_ _ | refine zg ?_ | refine ze ?_ _)); refine zu (cs := #[.slice none 0 0, .int .i64 0]) ?_ 0 _ rfl; (with_reducible repeat (first | refine zd ?_ _ | refine zg ?_ | refine ze ?_ _)); exact BK405.out) : p := h
theorem zK146 {p : Prop} (h : p := by (with_reducible repeat (first | refine zd ?_ _ | refine zg ?_ | refine ze ?_ _)); refine zu (cs := #[.slice none 0 0, .int .i64 0]) ?_ 1 _ rfl; (with_reducible repeat (first | refine zd ?_ _ | refine zg ?_ | refine ze ?_ _)); refine zu (cs := #[.slice none 0 0, .int .i64 0]) ?_ 0 _ rfl; (with_reducible repeat (first | refine zd ?_ _ | refine zg ?_ | refine ze ?_ _)); exact BK285.out) : p := h
theorem zK147 {p : Prop} (h : p := by (with_reducible repeat (first | refine zd ?_ _ | refine zg ?_ | refine ze ?_ _)); refine zu (cs := #[.slice none 0 0, .int .i64 0]) ?_ 1 _ rfl; (with_reducible repeat (first | refine zd ?_ _ | refine zg ?_ | refine ze ?_ _)); refine zu (cs := #[.slice none 0 0, .int .i64 0]) ?_ 0 _ rfl; (with_reducible repeat (first | refine zd ?_ _ | refine zg ?_ | refine ze ?_ _)); exact BK297.out) : p := h
theorem zK148 {p : Prop} (h : p := by (with_reducible repeat (first | refine zd ?_ _ | refine zg ?_ | refine ze ?_ _)); refine zu (cs := #[.slice none 0 0, .int .i64 0]) ?_ 1 _ rfl; (with_reducible repeat (first | refine zd ?_ _ | refine zg ?_ | refine ze ?_ _)); refine zu (cs := #[.slice none 0 0, .int .i64 0]) ?_ 0 _ rfl; (with_reducible repeat (first | refine zd ?_ _ | refine zg ?_ | refine ze ?_ _)); exact BK359.out) : p := h
theorem zK149 {p : Prop} (h : p := by first | exact HK.out.1 | exact (show Kept w _ (fun k_ => ((P4_0_ k_) ∨ k_ = gi3) ∨ k_ = gi4) from by repeat (first | (with_reducible first | exact HK.out | apply Kept.alloc | apply Kept.drewN | apply Kept.drew | refine Kept.setCell ?_ (.inl (Or.inl (Or.inr rfl))) _ | refine Kept.setCell ?_ (.inl (Or.inr rfl)) _) | exact HK.out)).1) : p := h
theorem zK150 {p : Prop} (h : p := by (with_reducible repeat (first | refine zd ?_ _ | refine zg ?_ | refine ze ?_ _)); refine zz ?_ NB384_391.out _; (with_reducible repeat (first | refine zd ?_ _ | refine zg ?_ | refine ze ?_ _)); refine zz ?_ NB384_391.out _; (with_reducible repeat (first | refine zd ?_ _ | refine zg ?_ | refine ze ?_ _)); exact BK384.out) : p := h
theorem zK151 {p : Prop} (h : p := by (with_reducible repeat (first | refine zd ?_ _ | refine zg ?_ | refine ze ?_ _)); refine zz ?_ NB384_405.out _; (with_reducible repeat (first | refine zd ?_ _ | refine zg ?_ | refine ze ?_ _)); refine zz ?_ NB384_405.out _; (with_reducible repeat (first | refine zd ?_ _ | refine zg ?_ | refine ze ?_ _)); exact BK384.out) : p := h
theorem zK152 {p : Prop} (h : p := by (with_reducible repeat (first | refine zd ?_ _ | refine zg ?_ | refine ze ?_ _)); refine zz ?_ NB391_405.out _; (with_reducible repeat (first | refine zd ?_ _ | refine zg ?_ | refine ze ?_ _)); refine zz ?_ NB391_405.out _; (with_reducible repeat (first | refine zd ?_ _ | refine zg ?_ | refine ze ?_ _)); exact BK391.out) : p := h
theorem zK153 {p : Prop} (h : p := by first | exact Nat.ne_of_lt (Nat.lt_of_lt_of_le zG120 GW257.out) | (rw [add_block]; exact Nat.ne_of_lt (Nat.lt_of_lt_of_le zG120 GW257.out)) | (show (Addr.add _ _).block ≠ _; rw [add_block]; exact Nat.ne_of_lt (Nat.lt_of_lt_of_le zG120 GW257.out)) | (dsimp only; exact Nat.ne_of_lt (Nat.lt_of_lt_of_le zG120 GW257.out))) : p := h
theorem zK154 {p : Prop} (h : p := by first | exact Nat.ne_of_lt (Nat.lt_of_lt_of_le zG121 GW257.out) | (rw [add_block]; exact Nat.ne_of_lt (Nat.lt_of_lt_of_le zG121 GW257.out)) | (show (Addr.add _ _).block ≠ _; rw [add_block]; exact Nat.ne_of_lt (Nat.lt_of_lt_of_le zG121 GW257.out)) | (dsimp only; exact Nat.ne_of_lt (Nat.lt_of_lt_of_le zG121 GW257.out))) : p := h
theorem zK155 {p : Prop} (h : p := by first | exact Nat.ne_of_lt (Nat.lt_of_lt_of_le zG122 GW257.out) | (rw [add_block]; exact Nat.ne_of_lt (Nat.lt_of_lt_of_le zG122 GW257.out)) | (show (Addr.add _ _).block ≠ _; rw [add_block]; exact Nat.ne_of_lt (Nat.lt_of_lt_of_le zG122 GW257.out)) | (dsimp only; exact Nat.ne_of_lt (Nat.lt_of_lt_of_le zG122 GW257.out))) : p := h
theorem zK156 {p : Prop} (h : p := by first | exact Nat.ne_of_lt (Nat.lt_of_lt_of_le zG123 GW257.out) | (rw [add_block]; exact Nat.ne_of_lt (Nat.lt_of_lt_of_le zG123 GW257.out)) | (show (Addr.add _ _).block ≠ _; rw [add_block]; exact Nat.ne_of_lt (Nat.lt_of_lt_of_le zG123 GW257.out)) | (dsimp only; exact Nat.ne_of_lt (Nat.lt_of_lt_of_le zG123 GW257.out))) : p := h
theorem zK157 {p : Prop} (h : p := by first | exact Nat.ne_of_lt (Nat.lt_of_lt_of_le zG124 GW257.out) | (rw [add_block]; exact Nat.ne_of_lt (Nat.lt_of_lt_of_le zG124 GW257.out)) | (show (Addr.add _ _).block ≠ _; rw [add_block]; exact Nat.ne_of_lt (Nat.lt_of_lt_of_le zG124 GW257.out)) | (dsimp only; exact Nat.ne_of_lt (Nat.lt_of_lt_of_le zG124 GW257.out))) : p := h
theorem zK158 {p : Prop} (h : p := by first | exact Nat.ne_of_lt (Nat.lt_of_lt_of_le zG125 GW257.out) | (rw [add_block]; exact Nat.ne_of_lt (Nat.lt_of_lt_of_le zG125 GW257.out)) | (show (Addr.add _ _).block ≠ _; rw [add_block]; exact Nat.ne_of_lt (Nat.lt_of_lt_of_le zG125 GW257.out)) | (dsimp only; exact Nat.ne_of_lt (Nat.lt_of_lt_of_le zG125 GW257.out))) : p := h
theorem zK159 {p : Prop} (h : p := by first | exact Nat.ne_of_lt (Nat.lt_of_lt_of_le zG126 GW257.out) | (rw [add_block]; exact Nat.ne_of_lt (Nat.lt_of_lt_of_le zG126 GW257.out)) | (show (Addr.add _ _).block ≠ _; rw [add_block]; exact Nat.ne_of_lt (Nat.lt_of_lt_of_le zG126 GW257.out)) | (dsimp only; exact Nat.ne_of_lt (Nat.lt_of_lt_of_le zG126 GW257.out))) : p := h
theorem zK160 {p : Prop} (h : p := by first | exact Nat.ne_of_lt (Nat.lt_of_lt_of_le zG127 GW257.out) | (rw [add_block]; exact Nat.ne_of_lt (Nat.lt_of_lt_of_le zG127 GW257.out)) | (show (Addr.add _ _).block ≠ _; rw [add_block]; exact Nat.ne_of_lt (Nat.lt_of_lt_of_le zG127 GW257.out)) | (dsimp only; exact Nat.ne_of_lt (Nat.lt_of_lt_of_le zG127 GW257.out))) : p := h
theorem zK161 {p : Prop} (h : p := by first | exact Nat.ne_of_lt (Nat.lt_of_lt_of_le zG120 GW258.out) | (rw [add_block]; exact Nat.ne_of_lt (Nat.lt_of_lt_of_le zG120 GW258.out)) | (show (Addr.add _ _).block ≠ _; rw [add_block]; exact Nat.ne_of_lt (Nat.lt_of_lt_of_le zG120 GW258.out)) | (dsimp only; exact Nat.ne_of_lt (Nat.lt_of_lt_of_le zG120 GW258.out))) : p := h
theorem zK162 {p : Prop} (h : p := by first | exact Nat.ne_of_lt (Nat.lt_of_lt_of_le zG121 GW258.out) | (rw [add_block]; exact Nat.ne_of_lt (Nat.lt_of_lt_of_le zG121 GW258.out)) | (show (Addr.add _ _).block ≠ _; rw [add_block]; exact Nat.ne_of_lt (Nat.lt_of_lt_of_le zG121 GW258.out)) | (dsimp only; exact Nat.ne_of_lt (Nat.lt_of_lt_of_le zG121 GW258.out))) : p := h
theorem zK163 {p : Prop} (h : p := by first | exact Nat.ne_of_lt (Nat.lt_of_lt_of_le zG122 GW258.out) | (rw [add_block]; exact Nat.ne_of_lt (Nat.lt_of_lt_of_le zG122 GW258.out)) | (show (Addr.add _ _).block ≠ _; rw [add_block]; exact Nat.ne_of_lt (Nat.lt_of_lt_of_le zG122 GW258.out)) | (dsimp only; exact Nat.ne_of_lt (Nat.lt_of_lt_of_le zG122 GW258.out))) : p := h
theorem zK164 {p : Prop} (h : p := by first | exact Nat.ne_of_lt (Nat.lt_of_lt_of_le zG123 GW258.out) | (rw [add_block]; exact Nat.ne_of_lt (Nat.lt_of_lt_of_le zG123 GW258.out)) | (show (Addr.add _ _).block ≠ _; rw [add_block]; exact Nat.ne_of_lt (Nat.lt_of_lt_of_le zG123 GW258.out)) | (dsimp only; exact Nat.ne_of_lt (Nat.lt_of_lt_of_le zG123 GW258.out))) : p := h
theorem zK165 {p : Prop} (h : p := by first | exact Nat.ne_of_lt (Nat.lt_of_lt_of_le zG124 GW258.out) | (rw [add_block]; exact Nat.ne_of_lt (Nat.lt_of_lt_of_le zG124 GW258.out)) | (show (Addr.add _ _).block ≠ _; rw [add_block]; exact Nat.ne_of_lt (Nat.lt_of_lt_of_le zG124 GW258.out)) | (dsimp only; exact Nat.ne_of_lt (Nat.lt_of_lt_of_le zG124 GW258.out))) : p := h
theorem zK166 {p : Prop} (h : p := by first | exact Nat.ne_of_lt (Nat.lt_of_lt_of_le zG125 GW258.out) | (rw [add_block]; exact Nat.ne_of_lt (Nat.lt_of_lt_of_le zG125 GW258.out)) | (show (Addr.add _ _).block ≠ _; rw [add_block]; exact Nat.ne_of_lt (Nat.lt_of_lt_of_le zG125 GW258.out)) | (dsimp only; exact Nat.ne_of_lt (Nat.lt_of_lt_of_le zG125 GW258.out))) : p := h
theorem zK167 {p : Prop} (h : p := by first | exact Nat.ne_of_lt (Nat.lt_of_lt_of_le zG126 GW258.out) | (rw [add_block]; exact Nat.ne_of_lt (Nat.lt_of_lt_of_le zG126 GW258.out)) | (show (Addr.add _ _).block ≠ _; rw [add_block]; exact Nat.ne_of_lt (Nat.lt_of_lt_of_le zG126 GW258.out)) | (dsimp only; exact Nat.ne_of_lt (Nat.lt_of_lt_of_le zG126 GW258.out))) : p := h
theorem zK168 {p : Prop} (h : p := by first | exact Nat.ne_of_lt (Nat.lt_of_lt_of_le zG127 GW258.out) | (rw [add_block]; exact Nat.ne_of_lt (Nat.lt_of_lt_of_le zG127 GW258.out)) | (show (Addr.add _ _).block ≠ _; rw [add_block]; exact Nat.ne_of_lt (Nat.lt_of_lt_of_le zG127 GW258.out)) | (dsimp only; exact Nat.ne_of_lt (Nat.lt_of_lt_of_le zG127 GW258.out))) : p := h
theorem zK169 {p : Prop} (h : p := by (with_reducible repeat (first | apply zw | apply zx | apply zy)); exact (zai (zay (p := ⟨gb405, 1, none⟩) (zay (p := ⟨gb405, 0, none⟩) (zai HO_4.out (fun k_ hk => (⟨hk, hk.2⟩ : _ ∧ k_ ≠ gb405))) (fun _ hk => hk.2) (.slice Ao106 t399.length co106)) (fun _ hk => hk.2) (.int .i64 t402)) (fun _ h_ => h_.1))) : p := h
theorem zK170 {p : Prop} (h : p := by (with_reducible repeat (first | apply zw | apply zx | apply zy)); exact (zai (zay (p := ⟨gb405, 1, none⟩) (zay (p := ⟨gb405, 0, none⟩) (zai HO_4.out (fun k_ hk => (⟨hk, hk.2⟩ : _ ∧ k_ ≠ gb405))) (fun _ hk => hk.2) (.slice Ao131 t399.length co131)) (fun _ hk => hk.2) (.int .i64 t402)) (fun _ h_ => h_.1))) : p := h
theorem zK171 {p : Prop} (h : p := by (with_reducible repeat (first | apply zw | apply zx | apply zy)); exact (zai (zay (p := ⟨gb384, 1, none⟩) (zay (p := ⟨gb384, 0, none⟩) (zai HO376.out (fun k_ hk => (⟨hk, hk.2⟩ : _ ∧ k_ ≠ gb384))) (fun _ hk => hk.2) (.slice Ao12 t379.length co12)) (fun _ hk => hk.2) (.int .i64 t382)) (fun _ h_ => h_.1))) : p := h
theorem zK172 {p : Prop} (h : p := by (with_reducible repeat (first | apply zw | apply zx | apply zy)); exact (zai (zay (p := ⟨gb391, 1, none⟩) (zay (p := ⟨gb391, 0, none⟩) (zai HO376.out (fun k_ hk => (⟨hk, hk.2⟩ : _ ∧ k_ ≠ gb391))) (fun _ hk => hk.2) (.slice Ao17 t385.length co17)) (fun _ hk => hk.2) (.int .i64 t388)) (fun _ h_ => h_.1))) : p := h
theorem zK173 {p : Prop} (h : p := by (try simp only [List.map_toArray, List.map_cons, List.map_nil]); first | done | (rw [show (l2.take (x42_2 : Int).toNat).length = x42_2.toNat from (by rw [List.length_take]; have h_ : (x42_2 : Int) ≤ (l2.length : Int) := zO; omega)] <;> rfl) | rfl | (simp only [List.length_drop, List.length_take]; rfl)) : p := h
theorem zK174 {p : Prop} (h : p := by (with_reducible repeat (first | apply zw | apply zx | apply zy)); exact (zai (zay (p := ⟨gb405, 1, none⟩) (zay (p := ⟨gb405, 0, none⟩) (zai HO_4.out (fun k_ hk => (⟨hk, hk.2⟩ : _ ∧ k_ ≠ gb405))) (fun _ hk => hk.2) (.slice Ao51 t399.length co51)) (fun _ hk => hk.2) (.int .i64 t402)) (fun _ h_ => h_.1))) : p := h
theorem zK175 {p : Prop} (h : p := by (with_reducible repeat (first | apply zw | apply zx | apply zy)); exact (zai (zay (p := ⟨gb405, 1, none⟩) (zay (p := ⟨gb405, 0, none⟩) (zai HO_4.out (fun k_ hk => (⟨hk, hk.2⟩ : _ ∧ k_ ≠ gb405))) (fun _ hk => hk.2) (.slice Ao77 t399.length co77)) (fun _ hk => hk.2) (.int .i64 t402)) (fun _ h_ => h_.1))) : p := h
theorem zK176 {p : Prop} (h : p := by (try simp only [List.map_toArray, List.map_cons, List.map_nil]); first | done | (rw [show (l0.take (x7_1 : Int).toNat).length = x7_1.toNat from (by rw [List.length_take]; have h_ : (x7_1 : Int) ≤ (l0.length : Int) := zO; omega)] <;> rfl) | rfl | (simp only [List.length_drop, List.length_take]; rfl)) : p := h
theorem zK177 {p : Prop} (h : p := by (with_reducible repeat (first | apply zl | apply zm | apply zn)); exact (zt (zs (p := ⟨gb405, 1, none⟩) (zs (p := ⟨gb405, 0, none⟩) (zv HO_385000.out BK405.out zG131) (fun _ hk => hk.2) (.slice Ao106 t399.length co106)) (fun _ hk => hk.2) (.int .i64 t402)) (fun _ h_ => h_.1))) : p := h
theorem zK178 {p : Prop} (h : p := by (with_reducible repeat (first | apply zl | apply zm | apply zn)); exact (zt (zs (p := ⟨gb405, 1, none⟩) (zs (p := ⟨gb405, 0, none⟩) (zv HO_392000.out BK405.out zG131) (fun _ hk => hk.2) (.slice Ao106 t399.length co106)) (fun _ hk => hk.2) (.int .i64 t402)) (fun _ h_ => h_.1))) : p := h
theorem zK179 {p : Prop} (h : p := by (with_reducible repeat (first | apply zl | apply zm | apply zn)); exact (zt (zs (p := ⟨gb405, 1, none⟩) (zs (p := ⟨gb405, 0, none⟩) (zv HO_385000.out BK405.out zG131) (fun _ hk => hk.2) (.slice Ao131 t399.length co131)) (fun _ hk => hk.2) (.int .i64 t402)) (fun _ h_ => h_.1))) : p := h
theorem zK180 {p : Prop} (h : p := by (with_reducible repeat (first | apply zl | apply zm | apply zn)); exact (zt (zs (p := ⟨gb405, 1, none⟩) (zs (p := ⟨gb405, 0, none⟩) (zv HO_392000.out BK405.out zG131) (fun _ hk => hk.2) (.slice Ao131 t399.length co131)) (fun _ hk => hk.2) (.int .i64 t402)) (fun _ h_ => h_.1))) : p := h
theorem zK181 {p : Prop} (h : p := by (with_reducible repeat (first | apply zl | apply zm | apply zn)); exact (zt (zs (p := ⟨gb405, 1, none⟩) (zs (p := ⟨gb405, 0, none⟩) (zv HO_385000.out BK405.out zG131) (fun _ hk => hk.2) (.slice Ao51 t399.length co51)) (fun _ hk => hk.2) (.int .i64 t402)) (fun _ h_ => h_.1))) : p := h
theorem zK182 {p : Prop} (h : p := by (with_reducible repeat (first | apply zl | apply zm | apply zn)); exact (zt (zs (p := ⟨gb405, 1, none⟩) (zs (p := ⟨gb405, 0, none⟩) (zv HO_392000.out BK405.out zG131) (fun _ hk => hk.2) (.slice Ao51 t399.length co51)) (fun _ hk => hk.2) (.int .i64 t402)) (fun _ h_ => h_.1))) : p := h
theorem zK183 {p : Prop} (h : p := by (with_reducible repeat (first | apply zl | apply zm | apply zn)); exact (zt (zs (p := ⟨gb405, 1, none⟩) (zs (p := ⟨gb405, 0, none⟩) (zv HO_385000.out BK405.out zG131) (fun _ hk => hk.2) (.slice Ao77 t399.length co77)) (fun _ hk => hk.2) (.int .i64 t402)) (fun _ h_ => h_.1))) : p := h
theorem zK184 {p : Prop} (h : p := by (with_reducible repeat (first | apply zl | apply zm | apply zn)); exact (zt (zs (p := ⟨gb405, 1, none⟩) (zs (p := ⟨gb405, 0, none⟩) (zv HO_392000.out BK405.out zG131) (fun _ hk => hk.2) (.slice Ao77 t399.length co77)) (fun _ hk => hk.2) (.int .i64 t402)) (fun _ h_ => h_.1))) : p := h
theorem zK185 {p : Prop} (h : p := by first | exact HK.out.1 | exact (show Kept w _ (fun k_ => (P0_2_ k_ ∨ P1_ k_) ∨ k_ = gi0) from by repeat (first | (with_reducible first | exact HK.out | apply Kept.alloc | apply Kept.drewN | apply Kept.drew | refine Kept.setCell ?_ (.inl (Or.inr rfl)) _) | exact HK.out)).1) : p := h
theorem zK186 {p : Prop} (h : p := by rw [hw]; exact (by repeat (first | (with_reducible first | exact HB.out | apply zi | apply zc | apply zh | refine zf ?_ GE283.out | refine zf ?_ GE284.out | refine zf ?_ GE285.out | refine zf ?_ GE289.out | refine zf ?_ GE290.out | refine zf ?_ GE291.out) | exact HB.out))) : p := h
theorem zK187 {p : Prop} (h : p := by (with_reducible repeat (first | apply zl | apply zm | apply zn)); exact (zt (zs (p := ⟨gb405, 1, none⟩) (zs (p := ⟨gb405, 0, none⟩) (zv HO401.out BK405.out zG131) (fun _ hk => hk.2) (.slice Ao106 t399.length co106)) (fun _ hk => hk.2) (.int .i64 t402)) (fun _ h_ => h_.1))) : p := h
theorem zK188 {p : Prop} (h : p := by (with_reducible repeat (first | apply zl | apply zm | apply zn)); exact (zt (zs (p := ⟨gb405, 1, none⟩) (zs (p := ⟨gb405, 0, none⟩) (zv HO401.out BK405.out zG131) (fun _ hk => hk.2) (.slice Ao131 t399.length co131)) (fun _ hk => hk.2) (.int .i64 t402)) (fun _ h_ => h_.1))) : p := h
theorem zK189 {p : Prop} (h : p := by (with_reducible repeat (first | apply zl | apply zm | apply zn)); exact (zt (zs (p := ⟨gb405, 1, none⟩) (zs (p := ⟨gb405, 0, none⟩) (zv HO_3.out BK405.out zG131) (fun _ hk => hk.2) (.slice Ao106 t399.length co106)) (fun _ hk => hk.2) (.int .i64 t402)) (fun _ h_ => h_.1))) : p := h
theorem zK190 {p : Prop} (h : p := by (with_reducible repeat (first | apply zl | apply zm | apply zn)); exact (zt (zs (p := ⟨gb405, 1, none⟩) (zs (p := ⟨gb405, 0, none⟩) (zv HO_3.out BK405.out zG131) (fun _ hk => hk.2) (.slice Ao131 t399.length co131)) (fun _ hk => hk.2) (.int .i64 t402)) (fun _ h_ => h_.1))) : p := h
theorem zK191 {p : Prop} (h : p := by (with_reducible repeat (first | apply zl | apply zm | apply zn)); exact (zt (zs (p := ⟨gb384, 1, none⟩) (zs (p := ⟨gb384, 0, none⟩) (zv HO374.out BK384.out zG131) (fun _ hk => hk.2) (.slice Ao12 t379.length co12)) (fun _ hk => hk.2) (.int .i64 t382)) (fun _ h_ => h_.1))) : p := h
theorem zK192 {p : Prop} (h : p := by (with_reducible repeat (first | apply zl | apply zm | apply zn)); exact (zt (zs (p := ⟨gb384, 1, none⟩) (zs (p := ⟨gb384, 0, none⟩) (zv HO378.out BK384.out zG131) (fun _ hk => hk.2) (.slice Ao12 t379.length co12)) (fun _ hk => hk.2) (.int .i64 t382)) (fun _ h_ => h_.1))) : p := h
theorem zK193 {p : Prop} (h : p := by (with_reducible repeat (first | apply zl | apply zm | apply zn)); exact (zt (zs (p := ⟨gb384, 1, none⟩) (zs (p := ⟨gb384, 0, none⟩) (zv HO381.out BK384.out zG131) (fun _ hk => hk.2) (.slice Ao12 t379.length co12)) (fun _ hk => hk.2) (.int .i64 t382)) (fun _ h_ => h_.1))) : p := h
theorem zK194 {p : Prop} (h : p := by (with_reducible repeat (first | apply zl | apply zm | apply zn)); exact (zt (zs (p := ⟨gb391, 1, none⟩) (zs (p := ⟨gb391, 0, none⟩) (zv HO374.out BK391.out zG131) (fun _ hk => hk.2) (.slice Ao17 t385.length co17)) (fun _ hk => hk.2) (.int .i64 t388)) (fun _ h_ => h_.1))) : p := h
theorem zK195 {p : Prop} (h : p := by (with_reducible repeat (first | apply zl | apply zm | apply zn)); exact (zt (zs (p := ⟨gb391, 1, none⟩) (zs (p := ⟨gb391, 0, none⟩) (zv HO378.out BK391.out zG131) (fun _ hk => hk.2) (.slice Ao17 t385.length co17)) (fun _ hk => hk.2) (.int .i64 t388)) (fun _ h_ => h_.1))) : p := h
theorem zK196 {p : Prop} (h : p := by (with_reducible repeat (first | apply zl | apply zm | apply zn)); exact (zt (zs (p := ⟨gb391, 1, none⟩) (zs (p := ⟨gb391, 0, none⟩) (zv HO381.out BK391.out zG131) (fun _ hk => hk.2) (.slice Ao17 t385.length co17)) (fun _ hk => hk.2) (.int .i64 t388)) (fun _ h_ => h_.1))) : p := h
theorem zK197 {p : Prop} (h : p := by (with_reducible repeat (first | apply zl | apply zm | apply zn)); exact (zt (zs (p := ⟨gb391, 1, none⟩) (zs (p := ⟨gb391, 0, none⟩) (zv HO387.out BK391.out zG131) (fun _ hk => hk.2) (.slice Ao17 t385.length co17)) (fun _ hk => hk.2) (.int .i64 t388)) (fun _ h_ => h_.1))) : p := h
theorem zK198 {p : Prop} (h : p := by (with_reducible repeat (first | apply zl | apply zm | apply zn)); exact (zt (zs (p := ⟨gb405, 1, none⟩) (zs (p := ⟨gb405, 0, none⟩) (zv HO401.out BK405.out zG131) (fun _ hk => hk.2) (.slice Ao51 t399.length co51)) (fun _ hk => hk.2) (.int .i64 t402)) (fun _ h_ => h_.1))) : p := h
theorem zK199 {p : Prop} (h : p := by (with_reducible repeat (first | apply zl | apply zm | apply zn)); exact (zt (zs (p := ⟨gb405, 1, none⟩) (zs (p := ⟨gb405, 0, none⟩) (zv HO401.out BK405.out zG131) (fun _ hk => hk.2) (.slice Ao77 t399.length co77)) (fun _ hk => hk.2) (.int .i64 t402)) (fun _ h_ => h_.1))) : p := h
theorem zK200 {p : Prop} (h : p := by (with_reducible repeat (first | apply zl | apply zm | apply zn)); exact (zt (zs (p := ⟨gb405, 1, none⟩) (zs (p := ⟨gb405, 0, none⟩) (zv HO_3.out BK405.out zG131) (fun _ hk => hk.2) (.slice Ao51 t399.length co51)) (fun _ hk => hk.2) (.int .i64 t402)) (fun _ h_ => h_.1))) : p := h
theorem zK201 {p : Prop} (h : p := by (with_reducible repeat (first | apply zl | apply zm | apply zn)); exact (zt (zs (p := ⟨gb405, 1, none⟩) (zs (p := ⟨gb405, 0, none⟩) (zv HO_3.out BK405.out zG131) (fun _ hk => hk.2) (.slice Ao77 t399.length co77)) (fun _ hk => hk.2) (.int .i64 t402)) (fun _ h_ => h_.1))) : p := h
theorem zK202 {p : Prop} (h : p := by rw [hw]; exact (by (with_reducible repeat (first | refine zd ?_ _ | refine zg ?_ | refine ze ?_ _)); refine zu (cs := #[.nilFunc]) ?_ 0 _ rfl; (with_reducible repeat (first | refine zd ?_ _ | refine zg ?_ | refine ze ?_ _)); exact BK291.out)) : p := h
theorem zK203 {p : Prop} (h : p := by (with_reducible repeat (first | apply zw | apply zx | apply zy)); exact zai HO_4.out (fun _ hk => ⟨⟨hk.1.1.1, ⟨hk.1.1.2.1, ⟨hk.1.1.2.2.1, ⟨hk.1.1.2.2.2.1, ⟨hk.2, ⟨hk.1.1.2.2.2.2.1, ⟨hk.1.1.2.2.2.2.2.1, hk.1.1.2.2.2.2.2.2⟩⟩⟩⟩⟩⟩⟩, hk.1.2⟩)) : p := h
theorem zK204 {p : Prop} (h : p := by rw [hw]; exact (by (with_reducible repeat (first | refine zd ?_ _ | refine zg ?_ | refine ze ?_ _)); refine zz ?_ NB283_291.out _; (with_reducible repeat (first | refine zd ?_ _ | refine zg ?_ | refine ze ?_ _)); exact BK283.out)) : p := h
theorem zK205 {p : Prop} (h : p := by rw [hw]; exact (by (with_reducible repeat (first | refine zd ?_ _ | refine zg ?_ | refine ze ?_ _)); refine zz ?_ NB284_291.out _; (with_reducible repeat (first | refine zd ?_ _ | refine zg ?_ | refine ze ?_ _)); exact BK284.out)) : p := h
theorem zK206 {p : Prop} (h : p := by rw [hw]; exact (by (with_reducible repeat (first | refine zd ?_ _ | refine zg ?_ | refine ze ?_ _)); refine zz ?_ NB285_291.out _; (with_reducible repeat (first | refine zd ?_ _ | refine zg ?_ | refine ze ?_ _)); exact BK285.out)) : p := h
theorem zK207 {p : Prop} (h : p := by rw [hw]; exact (by (with_reducible repeat (first | refine zd ?_ _ | refine zg ?_ | refine ze ?_ _)); refine zz ?_ NB289_291.out _; (with_reducible repeat (first | refine zd ?_ _ | refine zg ?_ | refine ze ?_ _)); exact BK289.out)) : p := h
theorem zK208 {p : Prop} (h : p := by rw [hw]; exact (by (with_reducible repeat (first | refine zd ?_ _ | refine zg ?_ | refine ze ?_ _)); refine zz ?_ NB290_291.out _; (with_reducible repeat (first | refine zd ?_ _ | refine zg ?_ | refine ze ?_ _)); exact BK290.out)) : p := h
theorem zK209 {p : Prop} (h : p := by repeat (first | (with_reducible first | exact HB.out | apply zi | apply zc | apply zh | refine zf ?_ GE283.out | refine zf ?_ GE284.out | refine zf ?_ GE285.out | refine zf ?_ GE289.out | refine zf ?_ GE290.out) | exact HB.out)) : p := h
theorem zK210 {p : Prop} (h : p := by (with_reducible repeat (first | apply zw | apply zx | apply zy)); exact zai HO_4.out (fun _ hk => ⟨⟨hk.1.1.1.1, ⟨hk.1.1.1.2.1, ⟨hk.1.1.1.2.2.1, ⟨hk.1.1.2, ⟨hk.1.1.1.2.2.2.1, ⟨hk.1.1.1.2.2.2.2, hk.1.2⟩⟩⟩⟩⟩⟩, hk.2⟩)) : p := h
theorem zK211 {p : Prop} (h : p := by repeat (first | (with_reducible first | exact HB.out | apply zi | apply zc | apply zh | refine zf ?_ GE283.out | refine zf ?_ GE284.out | refine zf ?_ GE285.out | refine zf ?_ GE289.out) | exact HB.out)) : p := h
theorem zK212 {p : Prop} (h : p := by repeat (first | (with_reducible first | exact HI138.out | apply IsS168.alloc | apply IsS168.drewN | apply IsS168.drew | apply IsS168.set_1 | apply IsS168.set_2) | exact HI138.out)) : p := h
theorem zK213 {p : Prop} (h : p := by repeat (first | (with_reducible first | exact HB.out | apply zi | apply zc | apply zh | refine zf ?_ GE283.out | refine zf ?_ GE284.out) | exact HB.out)) : p := h
theorem zK214 {p : Prop} (h : p := by repeat (first | (with_reducible first | exact HB.out | apply zi | apply zc | apply zh | refine zf ?_ GE359.out | refine zf ?_ GE361.out) | exact HB.out)) : p := h
theorem zK215 {p : Prop} (h : p := by repeat (first | (with_reducible first | exact HK.out | apply zaz | apply keep_drewN | apply keep_drew | apply keep_alloc) | exact HK.out)) : p := h
theorem zK216 {p : Prop} (h : p := by repeat (first | (with_reducible first | exact HB.out | apply zi | apply zc | apply zh | refine zf ?_ GE257.out) | exact HB.out)) : p := h
theorem zK217 {p : Prop} (h : p := by repeat (first | (with_reducible first | exact HB.out | apply zi | apply zc | apply zh | refine zf ?_ GE258.out) | exact HB.out)) : p := h
theorem zK218 {p : Prop} (h : p := by repeat (first | (with_reducible first | exact HB.out | apply zi | apply zc | apply zh | refine zf ?_ GE283.out) | exact HB.out)) : p := h
theorem zK219 {p : Prop} (h : p := by repeat (first | (with_reducible first | exact HB.out | apply zi | apply zc | apply zh | refine zf ?_ GE239.out) | exact HB.out)) : p := h
theorem zK220 {p : Prop} (h : p := by repeat (first | (with_reducible first | exact HB.out | apply zi | apply zc | apply zh | refine zf ?_ GE359.out) | exact HB.out)) : p := h
theorem zK221 {p : Prop} (h : p := by repeat (first | (with_reducible first | exact HB.out | apply zi | apply zc | apply zh | refine zf ?_ GE384.out) | exact HB.out)) : p := h
theorem zK222 {p : Prop} (h : p := by repeat (first | (with_reducible first | exact HB.out | apply zi | apply zc | apply zh | refine zf ?_ GE225.out) | exact HB.out)) : p := h
theorem zK223 {p : Prop} (h : p := by (with_reducible repeat (first | apply zl | apply zm | apply zn)); exact zt HO271.out (fun _ hk => ⟨hk.1.1.1, ⟨hk.2, hk.1.2⟩⟩)) : p := h
theorem zK224 {p : Prop} (h : p := by (with_reducible repeat (first | apply zl | apply zm | apply zn)); exact zt HO274.out (fun _ hk => ⟨hk.1.1.1, ⟨hk.2, hk.1.2⟩⟩)) : p := h
theorem zK225 {p : Prop} (h : p := by first | (rw [add_block]; exact hn335_0) | (show (Addr.add _ _).block ≠ _; rw [add_block]; exact hn335_0) | exact hn335_0) : p := h
theorem zK226 {p : Prop} (h : p := by first | (rw [add_block]; exact hn335_1) | (show (Addr.add _ _).block ≠ _; rw [add_block]; exact hn335_1) | exact hn335_1) : p := h
theorem zK227 {p : Prop} (h : p := by first | (rw [add_block]; exact hn335_2) | (show (Addr.add _ _).block ≠ _; rw [add_block]; exact hn335_2) | exact hn335_2) : p := h
theorem zK228 {p : Prop} (h : p := by first | (rw [add_block]; exact hn335_3) | (show (Addr.add _ _).block ≠ _; rw [add_block]; exact hn335_3) | exact hn335_3) : p := h
theorem zK229 {p : Prop} (h : p := by first | (rw [add_block]; exact hn335_4) | (show (Addr.add _ _).block ≠ _; rw [add_block]; exact hn335_4) | exact hn335_4) : p := h
theorem zK230 {p : Prop} (h : p := by first | (rw [add_block]; exact hn336_0) | (show (Addr.add _ _).block ≠ _; rw [add_block]; exact hn336_0) | exact hn336_0) : p := h
theorem zK231 {p : Prop} (h : p := by first | (rw [add_block]; exact hn336_1) | (show (Addr.add _ _).block ≠ _; rw [add_block]; exact hn336_1) | exact hn336_1) : p := h
theorem zK232 {p : Prop} (h : p := by first | (rw [add_block]; exact hn336_2) | (show (Addr.add _ _).block ≠ _; rw [add_block]; exact hn336_2) | exact hn336_2) : p := h
theorem zK233 {p : Prop} (h : p := by first | (rw [add_block]; exact hn336_3) | (show (Addr.add _ _).block ≠ _; rw [add_block]; exact hn336_3) | exact hn336_3) : p := h
theorem zK234 {p : Prop} (h : p := by first | (rw [add_block]; exact hn336_4) | (show (Addr.add _ _).block ≠ _; rw [add_block]; exact hn336_4) | exact hn336_4) : p := h
theorem zK235 {p : Prop} (h : p := by (with_reducible repeat (first | refine zd ?_ _ | refine zg ?_ | refine ze ?_ _)); exact BK182.out) : p := h
theorem zK236 {p : Prop} (h : p := by (with_reducible repeat (first | refine zd ?_ _ | refine zg ?_ | refine ze ?_ _)); exact BK257.out) : p := h
theorem zK237 {p : Prop} (h : p := by (with_reducible repeat (first | refine zd ?_ _ | refine zg ?_ | refine ze ?_ _)); exact BK258.out) : p := h
theorem zK238 {p : Prop} (h : p := by (with_reducible repeat (first | refine zd ?_ _ | refine zg ?_ | refine ze ?_ _)); exact BK289.out) : p := h
theorem zK239 {p : Prop} (h : p := by (with_reducible repeat (first | refine zd ?_ _ | refine zg ?_ | refine ze ?_ _)); exact BK297.out) : p := h
theorem zK240 {p : Prop} (h : p := by (with_reducible repeat (first | refine zd ?_ _ | refine zg ?_ | refine ze ?_ _)); exact BK0.out) : p := h
theorem zK241 {p : Prop} (h : p := by simp only [putAll, Act.put, List.setIfInBounds_toArray, List.set_cons_zero, List.set_cons_succ]) : p := h
theorem zK242 {p : Prop} (h : p := by (with_reducible repeat (first | refine zd ?_ _ | refine zg ?_ | refine ze ?_ _)); exact BK1.out) : p := h
theorem zK243 {p : Prop} (h : p := by (with_reducible repeat (first | refine zd ?_ _ | refine zg ?_ | refine ze ?_ _)); exact BK2.out) : p := h
theorem zK244 {p : Prop} (h : p := by (with_reducible repeat (first | refine zd ?_ _ | refine zg ?_ | refine ze ?_ _)); exact BK5.out) : p := h
theorem zK245 {p : Prop} (h : p := by (with_reducible repeat (first | apply zl | apply zm | apply zn)); exact HO_1002.out) : p := h
theorem zK246 {p : Prop} (h : p := by (with_reducible repeat (first | apply zl | apply zm | apply zn)); exact HO_5000.out) : p := h
theorem zK247 {p : Prop} (h : p := by (with_reducible repeat (first | apply zl | apply zm | apply zn)); exact HO141.out) : p := h
theorem zK248 {p : Prop} (h : p := by (with_reducible repeat (first | apply zl | apply zm | apply zn)); exact HO181.out) : p := h
theorem zK249 {p : Prop} (h : p := by (with_reducible repeat (first | apply zl | apply zm | apply zn)); exact HO_12.out) : p := h
theorem zK250 {p : Prop} (h : p := by (with_reducible repeat (first | apply zl | apply zm | apply zn)); exact HO121.out) : p := h
theorem zK251 {p : Prop} (h : p := by (with_reducible repeat (first | apply zl | apply zm | apply zn)); exact HO374.out) : p := h
theorem zK252 {p : Prop} (h : p := by (with_reducible repeat (first | apply zw | apply zx | apply zy)); exact HO376.out) : p := h
theorem zK253 {p : Prop} (h : p := by (with_reducible repeat (first | apply zl | apply zm | apply zn)); exact HO378.out) : p := h
theorem zK254 {p : Prop} (h : p := by (with_reducible repeat (first | apply zw | apply zx | apply zy)); exact HO408.out) : p := h
theorem zK255 {p : Prop} (h : p := by (with_reducible repeat (first | apply zw | apply zx | apply zy)); exact HO411.out) : p := h
theorem zK256 {p : Prop} (h : p := by (with_reducible repeat (first | apply zw | apply zx | apply zy)); exact HO417.out) : p := h
theorem zK257 {p : Prop} (h : p := by (with_reducible repeat (first | apply zw | apply zx | apply zy)); exact HO426.out) : p := h
theorem zK258 {p : Prop} (h : p := by (with_reducible repeat (first | apply zw | apply zx | apply zy)); exact HO429.out) : p := h
theorem zK259 {p : Prop} (h : p := by (with_reducible repeat (first | apply zw | apply zx | apply zy)); exact HO435.out) : p := h
theorem zK260 {p : Prop} (h : p := by (with_reducible repeat (first | apply zl | apply zm | apply zn)); exact HO274.out) : p := h
theorem zK261 {p : Prop} (h : p := by (with_reducible repeat (first | apply zl | apply zm | apply zn)); exact HO_7.out) : p := h
theorem zK262 {p : Prop} (h : p := by have := zb _ _ hx335_0; first | rwa [add_block] at this | exact this) : p := h
theorem zK263 {p : Prop} (h : p := by have := zb _ _ hx336_0; first | rwa [add_block] at this | exact this) : p := h
end Go.Proofs.Ytojncbpeeboooaa.Y
