-- squeezed
-- made by pp.py (wip/tools) out of the translation; Lean checks it
import Derived.Test.YtdohpbhljifodaaProg
import Derived.Below
import Derived.Deep.Draws
import Derived.Deep.AppendLies
import Derived.Maps.AppendAt
import Derived.OwnWalk
import Derived.Laws.BytesArg
import Derived.Laws.MakeOwn
import Derived.Laws.OwnMore
import Derived.Deep.OwnRows
import Derived.Tactics
import Derived.Lib.ConvBytes
import Derived.Laws.Slices
import Derived.WalkKit
import Derived.KernelRfl
import Derived.RowKit3
import Derived.Deep.LoopGhost
import Derived.Deep.QuietTactic
import Derived.BigQuiet
import Derived.WideLaws
import Derived.Deep.DeepCutAuto
import Derived.Deep.CutBlock
import Derived.Deep.RegionHeld3
import Derived.Laws.Rows
import Derived.Lib.AppendStr
import Derived.ArgAppend
import Derived.Laws.IdiomCopy
import Derived.OrdersHeld
import Derived.Laws.BitsLemmas
import Derived.RowKit
import Derived.Test.YtdohpbhljifodaaFloat
import Derived.Test.YtdohpbhljifodaaWWords
import Derived.Test.YtdohpbhljifodaaWLast
import Derived.Test.YtdohpbhljifodaaWTab
import Derived.Test.YtdohpbhljifodaaWFour
import Derived.Test.YtdohpbhljifodaaWQPut
import Derived.Test.YtdohpbhljifodaaWApart
import Derived.Test.YtdohpbhljifodaaWArr
import Derived.Test.YtdohpbhljifodaaWZeros
import Derived.Test.YtdohpbhljifodaaWFoot
import Derived.Test.YtdohpbhljifodaaWKept
import Derived.Test.YtdohpbhljifodaaWShare
import Derived.Test.YtdohpbhljifodaaWN
import Derived.Test.YtdohpbhljifodaaWFootNe
import Derived.Test.YtdohpbhljifodaaWAt
import Derived.Test.YtdohpbhljifodaaWEqStruct
import Derived.Test.YtdohpbhljifodaaWRepsOne
import Derived.Test.YtdohpbhljifodaaWInv
import Derived.Test.YtdohpbhljifodaaWInvWords
import Derived.Test.YtdohpbhljifodaaWGuard
import Derived.Test.YtdohpbhljifodaaWNEv
import Derived.Test.YtdohpbhljifodaaWMore
namespace Go.Proofs.Ytdohpbhljifodaa.D
open Go.RowKit Go.Proofs.YtdohpbhljifodaaW.PrintWords Go.Proofs.YtdohpbhljifodaaW.PrintLast Go.Proofs.YtdohpbhljifodaaW.PrintMore
attribute [local go_sem] max2_int min2_int max_two min_two max_three min_three max_four min_four   -- for this text's walks alone
set_option linter.unusedVariables false
set_option linter.unusedSimpArgs false




def errW : Option Int → Value
 | none => .nilIface
 | some c => .iface 0 (.int .i64 c)
theorem errW_none : errW none = .nilIface := rfl
theorem errW_some (c : Int) : errW (some c) = .iface 0 (.int .i64 c) := rfl

theorem info3 : (Try.prog.info? 3).map (fun i => (i.zero, i.size, i.bytes)) = some (some (.int .i64 0), 1, 8) := by kernel_rfl
theorem info34 : (Try.prog.info? 34).map (fun i => (i.zero, i.size, i.bytes)) = some (some (.agg #[(.int .i64 0), (.int .i64 0)]), 2, 16) := by kernel_rfl
theorem info36 : (Try.prog.info? 36).map (fun i => (i.zero, i.size, i.bytes)) = some (some (.agg #[(.int .i64 0), (.int .i64 0), (.int .i64 0)]), 3, 24) := by kernel_rfl
theorem info54 : (Try.prog.info? 54).map (fun i => (i.zero, i.size, i.bytes)) = some (some (.agg #[(.int .i64 0), (.int .i64 0), (.int .i64 0), (.int .i64 0)]), 4, 32) := by kernel_rfl
-- the values' own types
/-! #### struct type 54 -/
structure S54 where
 f0 : Int
 f1 : Int
 f2 : Int
 f3 : Int
def z54 : S54 := ⟨(0 : Int), (0 : Int), (0 : Int), (0 : Int)⟩
def k54 : Kd S54 := Kd.iso (Kd.pair (Kd.int .i64) (Kd.pair (Kd.int .i64) (Kd.pair (Kd.int .i64) (Kd.int .i64)))) (fun x : S54 => (x.f0, x.f1, x.f2, x.f3))
theorem k54_open {w : World} {x : S54} {cs : List Value} (h : k54.K w x cs) : cs = [.int .i64 x.f0, .int .i64 x.f1, .int .i64 x.f2, .int .i64 x.f3] := by
 obtain ⟨_, _, rfl, rfl, ⟨_, _, rfl, rfl, ⟨_, _, rfl, rfl, rfl⟩⟩⟩ := h
 exact rfl
theorem k54_openM {w : World} {base : Nat} {ok : Nat → Prop} {x : S54} {cs : List Value} (h : k54.M w base ok x cs) : cs = [.int .i64 x.f0, .int .i64 x.f1, .int .i64 x.f2, .int .i64 x.f3] := by
 obtain ⟨_, _, rfl, rfl, ⟨_, _, rfl, rfl, ⟨_, _, rfl, rfl, rfl⟩⟩⟩ := h
 exact rfl
theorem k54_mk (w : World) (x : S54)  : k54.K w x [.int .i64 x.f0, .int .i64 x.f1, .int .i64 x.f2, .int .i64 x.f3] := ⟨[.int .i64 x.f0], [.int .i64 x.f1, .int .i64 x.f2, .int .i64 x.f3], rfl, rfl, ⟨[.int .i64 x.f1], [.int .i64 x.f2, .int .i64 x.f3], rfl, rfl, ⟨[.int .i64 x.f2], [.int .i64 x.f3], rfl, rfl, rfl⟩⟩⟩
theorem k54_mkM (w : World) (base : Nat) (ok : Nat → Prop) (x : S54)  : k54.M w base ok x [.int .i64 x.f0, .int .i64 x.f1, .int .i64 x.f2, .int .i64 x.f3] := ⟨[.int .i64 x.f0], [.int .i64 x.f1, .int .i64 x.f2, .int .i64 x.f3], rfl, rfl, ⟨[.int .i64 x.f1], [.int .i64 x.f2, .int .i64 x.f3], rfl, rfl, ⟨[.int .i64 x.f2], [.int .i64 x.f3], rfl, rfl, rfl⟩⟩⟩
def rd_T54 (xs : List S54) (i : Int) : S54 := xs.getD i.toNat z54
theorem at_T54 {w : World} {A : Option Addr} {n : Nat} {xs : List S54} (h : Kd.C k54 w A n xs) (i : Int) (h0 : 0 ≤ i) (h1 : i < n) : ∃ ad , A = some ad ∧ w.cell? (ad.add (i.toNat * 4)) = some (.int .i64 (rd_T54 xs i).f0) ∧ w.cell? ⟨(ad.add (i.toNat * 4)).block, (ad.add (i.toNat * 4)).off + 1, none⟩ = some (.int .i64 (rd_T54 xs i).f1) ∧ w.cell? ⟨(ad.add (i.toNat * 4)).block, (ad.add (i.toNat * 4)).off + 2, none⟩ = some (.int .i64 (rd_T54 xs i).f2) ∧ w.cell? ⟨(ad.add (i.toNat * 4)).block, (ad.add (i.toNat * 4)).off + 3, none⟩ = some (.int .i64 (rd_T54 xs i).f3) := by
 obtain ⟨ad, c, e, _, hK, hc0⟩ := Kd.C_get h z54 i h0 h1
 have hc : ∀ j u, c[j]? = some u → w.cell? (ad.add (i.toNat * 4 + j)) = some u := hc0
 obtain rfl := k54_open hK
 exact ⟨ad, e, hc 0 _ rfl, by rw [← add_field _ _ 1 (by omega)]; exact hc 1 _ rfl, by rw [← add_field _ _ 2 (by omega)]; exact hc 2 _ rfl, by rw [← add_field _ _ 3 (by omega)]; exact hc 3 _ rfl⟩

/-! #### struct type 36 -/
structure S36 where
 f0 : Int
 f1 : Int
 f2 : Int
def z36 : S36 := ⟨(0 : Int), (0 : Int), (0 : Int)⟩
def k36 : Kd S36 := Kd.iso (Kd.pair (Kd.int .i64) (Kd.pair (Kd.int .i64) (Kd.int .i64))) (fun x : S36 => (x.f0, x.f1, x.f2))
theorem k36_open {w : World} {x : S36} {cs : List Value} (h : k36.K w x cs) : cs = [.int .i64 x.f0, .int .i64 x.f1, .int .i64 x.f2] := by
 obtain ⟨_, _, rfl, rfl, ⟨_, _, rfl, rfl, rfl⟩⟩ := h
 exact rfl
theorem k36_openM {w : World} {base : Nat} {ok : Nat → Prop} {x : S36} {cs : List Value} (h : k36.M w base ok x cs) : cs = [.int .i64 x.f0, .int .i64 x.f1, .int .i64 x.f2] := by
 obtain ⟨_, _, rfl, rfl, ⟨_, _, rfl, rfl, rfl⟩⟩ := h
 exact rfl
theorem k36_mk (w : World) (x : S36)  : k36.K w x [.int .i64 x.f0, .int .i64 x.f1, .int .i64 x.f2] := ⟨[.int .i64 x.f0], [.int .i64 x.f1, .int .i64 x.f2], rfl, rfl, ⟨[.int .i64 x.f1], [.int .i64 x.f2], rfl, rfl, rfl⟩⟩
theorem k36_mkM (w : World) (base : Nat) (ok : Nat → Prop) (x : S36)  : k36.M w base ok x [.int .i64 x.f0, .int .i64 x.f1, .int .i64 x.f2] := ⟨[.int .i64 x.f0], [.int .i64 x.f1, .int .i64 x.f2], rfl, rfl, ⟨[.int .i64 x.f1], [.int .i64 x.f2], rfl, rfl, rfl⟩⟩
def rd_T36 (xs : List S36) (i : Int) : S36 := xs.getD i.toNat z36
theorem at_T36 {w : World} {A : Option Addr} {n : Nat} {xs : List S36} (h : Kd.C k36 w A n xs) (i : Int) (h0 : 0 ≤ i) (h1 : i < n) : ∃ ad , A = some ad ∧ w.cell? (ad.add (i.toNat * 3)) = some (.int .i64 (rd_T36 xs i).f0) ∧ w.cell? ⟨(ad.add (i.toNat * 3)).block, (ad.add (i.toNat * 3)).off + 1, none⟩ = some (.int .i64 (rd_T36 xs i).f1) ∧ w.cell? ⟨(ad.add (i.toNat * 3)).block, (ad.add (i.toNat * 3)).off + 2, none⟩ = some (.int .i64 (rd_T36 xs i).f2) := by
 obtain ⟨ad, c, e, _, hK, hc0⟩ := Kd.C_get h z36 i h0 h1
 have hc : ∀ j u, c[j]? = some u → w.cell? (ad.add (i.toNat * 3 + j)) = some u := hc0
 obtain rfl := k36_open hK
 exact ⟨ad, e, hc 0 _ rfl, by rw [← add_field _ _ 1 (by omega)]; exact hc 1 _ rfl, by rw [← add_field _ _ 2 (by omega)]; exact hc 2 _ rfl⟩

/-! #### struct type 34 -/
structure S34 where
 f0 : Int
 f1 : Int
def z34 : S34 := ⟨(0 : Int), (0 : Int)⟩
def k34 : Kd S34 := Kd.iso (Kd.pair (Kd.int .i64) (Kd.int .i64)) (fun x : S34 => (x.f0, x.f1))
theorem k34_open {w : World} {x : S34} {cs : List Value} (h : k34.K w x cs) : cs = [.int .i64 x.f0, .int .i64 x.f1] := by
 obtain ⟨_, _, rfl, rfl, rfl⟩ := h
 exact rfl
theorem k34_openM {w : World} {base : Nat} {ok : Nat → Prop} {x : S34} {cs : List Value} (h : k34.M w base ok x cs) : cs = [.int .i64 x.f0, .int .i64 x.f1] := by
 obtain ⟨_, _, rfl, rfl, rfl⟩ := h
 exact rfl
theorem k34_mk (w : World) (x : S34)  : k34.K w x [.int .i64 x.f0, .int .i64 x.f1] := ⟨[.int .i64 x.f0], [.int .i64 x.f1], rfl, rfl, rfl⟩
theorem k34_mkM (w : World) (base : Nat) (ok : Nat → Prop) (x : S34)  : k34.M w base ok x [.int .i64 x.f0, .int .i64 x.f1] := ⟨[.int .i64 x.f0], [.int .i64 x.f1], rfl, rfl, rfl⟩
def rd_T34 (xs : List S34) (i : Int) : S34 := xs.getD i.toNat z34
theorem at_T34 {w : World} {A : Option Addr} {n : Nat} {xs : List S34} (h : Kd.C k34 w A n xs) (i : Int) (h0 : 0 ≤ i) (h1 : i < n) : ∃ ad , A = some ad ∧ w.cell? (ad.add (i.toNat * 2)) = some (.int .i64 (rd_T34 xs i).f0) ∧ w.cell? ⟨(ad.add (i.toNat * 2)).block, (ad.add (i.toNat * 2)).off + 1, none⟩ = some (.int .i64 (rd_T34 xs i).f1) := by
 obtain ⟨ad, c, e, _, hK, hc0⟩ := Kd.C_get h z34 i h0 h1
 have hc : ∀ j u, c[j]? = some u → w.cell? (ad.add (i.toNat * 2 + j)) = some u := hc0
 obtain rfl := k34_open hK
 exact ⟨ad, e, hc 0 _ rfl, by rw [← add_field _ _ 1 (by omega)]; exact hc 1 _ rfl⟩

def rd_L5 (xs : List (List Int)) (i : Int) : (List Int) := xs.getD i.toNat ([] : List Int)
theorem at_L5 {w : World} {A : Option Addr} {n : Nat} {xs : List (List Int)} (h : Kd.C (Kd.slice 5 (Kd.int .u8)) w A n xs) (i : Int) (h0 : 0 ≤ i) (h1 : i < n) : ∃ ad A0 c0, A = some ad ∧ w.cell? (ad.add i.toNat) = some (.slice A0 (rd_L5 xs i).length c0) ∧ (rd_L5 xs i).length ≤ c0 ∧ (Kd.int .u8).C w A0 (rd_L5 xs i).length (rd_L5 xs i) := by
 obtain ⟨ad, c, e, _, hK, hc0⟩ := Kd.C_get h ([] : List Int) i h0 h1
 have hc : ∀ j u, c[j]? = some u → w.cell? (ad.add (i.toNat * 1 + j)) = some u := hc0
 obtain ⟨A0, c0, rfl, l0, g0⟩ := hK
 exact ⟨ad, A0, c0, e, by have hq := hc 0 _ rfl; rwa [Nat.mul_one, Nat.add_zero] at hq, l0, g0⟩

-- aliases
theorem zO {p : Prop} [Decidable p] (h : decide p = true := by first | (with_reducible assumption) | assumption) : p := of_decide_eq_true h
abbrev za := @Aside0.mk
abbrev zb := @blk_cell
abbrev zc := @pw_below_drewN
abbrev zd := @blk_frozen
abbrev ze := @below_drew1
abbrev zf := @below_alloc
abbrev zg := @blk_alloc
abbrev zh := @blk_drewN
abbrev zi := @below_set
abbrev zj := @blk_drew
abbrev zk := @Kd.R_drewN
abbrev zl := @Kd.R_alloc
abbrev zm := @Kd.R_drew
abbrev zn := @Kd.R_mono
abbrev zo := @KeepBut.set_
abbrev zp := @below_step
abbrev zq := @Kd.R_far
abbrev zr := @blk_put
abbrev zs := @below_size
abbrev zt := @Kd.R_below
abbrev zu := @blk_below
abbrev zv := @KeepBut.trans
abbrev zw := @Kd.R_keep
abbrev zx := @Kd.R_reads'
abbrev zy := @Kept.of_below
abbrev zz := @Kd.C_alloc
abbrev zaa := @Kd.C_drewN
abbrev zab := @Kd.R_slice
abbrev zac := @blk_lt
abbrev zad := @Kd.C_drew
abbrev zae := @Kd.R_types
abbrev zaf := @blk_kept
abbrev zag := @Kd.C_below
abbrev zah := @Kd.R_lower
abbrev zai := @Kd.R_ne
abbrev zaj := @World.block_lt_of_cell?
abbrev zak := @blk_far
abbrev zal := @Kd.R_elder'
abbrev zam := @Kd.R_base
abbrev zan := @Kd.R_elderB
abbrev zao := @Kd.own_blk
abbrev zap := @KeepBut.of_below
abbrev zaq := @Kd.at_int
abbrev zar := @blk_grown
abbrev zas := @KeepBut.blk
abbrev zat := @Kd.R_typed
abbrev zau := @KeepBut.refl
abbrev zav := @Kd.R_nil
abbrev zaw := @Kd.N_nil
abbrev zax := @Kd.V_nil
abbrev zay := @Kd.Q_nil
abbrev zaz := @Kd.S_nil
abbrev zba := @Kd.R_step
theorem zG53 {p : Prop} (h : p := by repeat (first | (with_reducible first | exact HK.out | apply zo | apply keep_drewN | apply keep_drew | apply keep_alloc | refine keep_far ?_ GW138.out _) | exact HK.out)) : p := h
theorem zG54 {p : Prop} (h : p := by (try simp only [List.map_toArray, List.map_cons, List.map_nil]); first | done | rfl | (simp only [List.length_drop, List.length_take]; rfl)) : p := h
theorem zG55 {p : Prop} (h : p := by repeat (first | (with_reducible first | exact HK.out | apply zo | apply keep_drewN | apply keep_drew | apply keep_alloc) | exact HK.out)) : p := h
theorem zG56 {p : Prop} (h : p := by repeat (first | (with_reducible first | exact HB.out | apply zf | apply zc | apply ze | refine zi ?_ GE193.out) | exact HB.out)) : p := h
theorem zG57 {p : Prop} (h : p := by repeat (first | (with_reducible first | exact HB.out | apply zf | apply zc | apply ze | refine zi ?_ GE231.out) | exact HB.out)) : p := h
theorem zG58 {p : Prop} (h : p := by repeat (first | (with_reducible first | exact HB.out | apply zf | apply zc | apply ze) | exact HB.out)) : p := h
theorem zG59 {p : Prop} (h : p := by (with_reducible repeat (first | refine zh ?_ _ | refine zj ?_ | refine zg ?_ _)); exact BK193.out) : p := h
theorem zG60 {p : Prop} (h : p := by (with_reducible repeat (first | refine zh ?_ _ | refine zj ?_ | refine zg ?_ _)); exact BK231.out) : p := h
theorem zG61 {p : Prop} (h : p := by (with_reducible repeat (first | refine zh ?_ _ | refine zj ?_ | refine zg ?_ _)); exact BK138.out) : p := h
theorem zG62 {p : Prop} (h : p := by (with_reducible repeat (first | apply zl | apply zk | apply zm)); exact HO_3.out) : p := h
theorem zG63 {p : Prop} (h : p := by kernel_rfl) : p := h
theorem zG64 {p : Prop} (h : p := by decide) : p := h
-- pressed
abbrev zA_ := @And.intro
-- pressed twice
theorem zAi {a b c : Prop} (h : a → b → c) : a ∧ b → c := fun x => h x.1 x.2
theorem zP {P : Program} {ops : Array Oper} {Q : Exit → Act → World → Prop} {md : Region.Mode} {S : World → Prop} {ds : List Nat} {T : Bool × List (List Nat × List Nat)} {oi : Oper} {v : Value} {fuel : Nat} {l : Array Bool} {a a' : Act} {w : World} (i : Nat) (N : Tmp) (l' : Array Bool) (hT : Aside0 (rtab md ops = T)) (h : wpAnyLast P md ops Q S ds fuel l' a' w) (hi : ops[i]? = some oi := by rfl) (hN : oi.dst = some N := by rfl) (hc : anyT T l.toList l'.toList i = true := by kernel_rfl) (hQ : ∀ c a w, Q (.panic c) (a.put oi.dst v) w → Q (.panic c) a w := by exact fun _ _ _ h => h) (hw : Region.wanted oi (yielded ops a.tmps) = true := by rfl) (hy : ∀ w, (execOp a.eval oi).run P w = .ok (.value v) w := by intro w'; go_simp; with_reducible rfl) (ha : a.put (some N) v = a' := by simp only [Act.put, List.setIfInBounds_toArray, List.set_cons_zero, List.set_cons_succ, i64_w, i32_w]; rfl) : wpAnyLast P md ops Q S ds (fuel + 1) l a w := pure_ l' hi hN (any_of hT.out hc) hQ (Or.inl ⟨hw, hy⟩) ha h
theorem zQ {P : Program} {ops : Array Oper} {Q : Exit → Act → World → Prop} {md : Region.Mode} {S : World → Prop} {ds : List Nat} {T : Bool × List (List Nat × List Nat)} {oi : Oper} {v : Value} {fuel : Nat} {l : Array Bool} {a a' : Act} {w : World} {B : List Nat} (i : Nat) (N : Tmp) (l' : Array Bool) (hT : Aside0 (rtab md ops = T)) (hW : Aside0 (waitsOk T.2 B = true)) (hS : S w) (h : wpAnyLast P md ops Q S ds fuel l' a' w) (hi : ops[i]? = some oi := by rfl) (hN : oi.dst = some N := by rfl) (hc : takeW T B ds l.toList l'.toList i = true := by kernel_rfl) (hQ : ∀ c a w, Q (.panic c) (a.put oi.dst v) w → Q (.panic c) a w := by exact fun _ _ _ h => h) (hw : Region.wanted oi (yielded ops a.tmps) = true := by rfl) (hy : ∀ w, S w → (execOp a.eval oi).run P w = .ok (.value v) w := by intro w'; (repeat (refine zAi ?_; intro _)); intro _; go_simp; with_reducible rfl) (ha : a.put (some N) v = a' := by simp only [Act.put, List.setIfInBounds_toArray, List.set_cons_zero, List.set_cons_succ, i64_w, i32_w]; rfl) : wpAnyLast P md ops Q S ds (fuel + 1) l a w := take_ l' hi hN (take_ofW hT.out hW.out hc) hQ (Or.inl ⟨hw, hy⟩) hS ha h
theorem zU {P : Program} {ops : Array Oper} {Q : Exit → Act → World → Prop} {md : Region.Mode} {S : World → Prop} {ds : List Nat} {T : Bool × List (List Nat × List Nat)} {oi : Oper} {fuel : Nat} {l : Array Bool} {a a' : Act} {w : World} (i : Nat) (N : Tmp) (l' : Array Bool) (hT : Aside0 (rtab md ops = T)) (h : wpAnyLast P md ops Q S ds fuel l' a' w) (hi : ops[i]? = some oi := by rfl) (hN : oi.dst = some N := by rfl) (hc : anyT T l.toList l'.toList i = true := by kernel_rfl) (hQ : ∀ c a w, Q (.panic c) (a.put oi.dst undef) w → Q (.panic c) a w := by exact fun _ _ _ h => h) (hw : Region.wanted oi (yielded ops a.tmps) = false := by rfl) (ha : a.put (some N) undef = a' := by simp only [Act.put, List.setIfInBounds_toArray, List.set_cons_zero, List.set_cons_succ, i64_w, i32_w]; rfl) : wpAnyLast P md ops Q S ds (fuel + 1) l a w := pure_ l' hi hN (any_of hT.out hc) hQ (Or.inr ⟨hw, rfl⟩) ha h
def zM (n m : Nat) : Array Bool := ⟨(List.range n).map (fun i => Nat.testBit m i)⟩
theorem zB3 {w : World} {g : Nat} {t : TypeId} {v0 v1 v2 : Value} (h : w.heap[g]? = some (.cells #[v0, v1, v2] t (0, 0))) : w.cell? ⟨g, 0, none⟩ = some v0 ∧ w.cell? ⟨g, 1, none⟩ = some v1 ∧ w.cell? ⟨g, 2, none⟩ = some v2 ∧ w.frozen? ⟨g, 0, none⟩ = false ∧ w.frozen? ⟨g, 1, none⟩ = false ∧ w.frozen? ⟨g, 2, none⟩ = false := ⟨(blk_cell h 0).trans rfl, (blk_cell h 1).trans rfl, (blk_cell h 2).trans rfl, blk_frozen h 0, blk_frozen h 1, blk_frozen h 2⟩
theorem zB4 {w : World} {g : Nat} {t : TypeId} {v0 v1 v2 v3 : Value} (h : w.heap[g]? = some (.cells #[v0, v1, v2, v3] t (0, 0))) : w.cell? ⟨g, 0, none⟩ = some v0 ∧ w.cell? ⟨g, 1, none⟩ = some v1 ∧ w.cell? ⟨g, 2, none⟩ = some v2 ∧ w.cell? ⟨g, 3, none⟩ = some v3 ∧ w.frozen? ⟨g, 0, none⟩ = false ∧ w.frozen? ⟨g, 1, none⟩ = false ∧ w.frozen? ⟨g, 2, none⟩ = false ∧ w.frozen? ⟨g, 3, none⟩ = false := ⟨(blk_cell h 0).trans rfl, (blk_cell h 1).trans rfl, (blk_cell h 2).trans rfl, (blk_cell h 3).trans rfl, blk_frozen h 0, blk_frozen h 1, blk_frozen h 2, blk_frozen h 3⟩
theorem zN1 (p : Nat) {b s : Nat} (hg : b = s) (h : p ≤ s) : Aside0 (p ≤ b) := ⟨hg ▸ h⟩
theorem zN2 {a b s : Nat} (hg : b = s) (h : a < s) : Aside0 (a ≠ b) ∧ Aside0 (b ≠ a) := ⟨⟨by subst hg; exact Nat.ne_of_lt h⟩, ⟨by subst hg; exact Nat.ne_of_gt h⟩⟩
theorem zN3 {a b s : Nat} {c : Prop} (hg : b = s) (h : a < s) (r : c) : Aside0 (a ≠ b) ∧ Aside0 (b ≠ a) ∧ c := ⟨(zN2 hg h).1, (zN2 hg h).2, r⟩
theorem zD2 {p0 p1 : Prop} (h0 : p0) (h1 : p1) : Aside0 p0 ∧ Aside0 p1 := ⟨⟨h0⟩, ⟨h1⟩⟩
theorem zD3 {p0 p1 p2 : Prop} (h0 : p0) (h1 : p1) (h2 : p2) : Aside0 p0 ∧ Aside0 p1 ∧ Aside0 p2 := ⟨⟨h0⟩, ⟨h1⟩, ⟨h2⟩⟩
theorem zD4 {p0 p1 p2 p3 : Prop} (h0 : p0) (h1 : p1) (h2 : p2) (h3 : p3) : Aside0 p0 ∧ Aside0 p1 ∧ Aside0 p2 ∧ Aside0 p3 := ⟨⟨h0⟩, ⟨h1⟩, ⟨h2⟩, ⟨h3⟩⟩
theorem zD5 {p0 p1 p2 p3 p4 : Prop} (h0 : p0) (h1 : p1) (h2 : p2) (h3 : p3) (h4 : p4) : Aside0 p0 ∧ Aside0 p1 ∧ Aside0 p2 ∧ Aside0 p3 ∧ Aside0 p4 := ⟨⟨h0⟩, ⟨h1⟩, ⟨h2⟩, ⟨h3⟩, ⟨h4⟩⟩
theorem zD6 {p0 p1 p2 p3 p4 p5 : Prop} (h0 : p0) (h1 : p1) (h2 : p2) (h3 : p3) (h4 : p4) (h5 : p5) : Aside0 p0 ∧ Aside0 p1 ∧ Aside0 p2 ∧ Aside0 p3 ∧ Aside0 p4 ∧ Aside0 p5 := ⟨⟨h0⟩, ⟨h1⟩, ⟨h2⟩, ⟨h3⟩, ⟨h4⟩, ⟨h5⟩⟩
theorem zD7 {p0 p1 p2 p3 p4 p5 p6 : Prop} (h0 : p0) (h1 : p1) (h2 : p2) (h3 : p3) (h4 : p4) (h5 : p5) (h6 : p6) : Aside0 p0 ∧ Aside0 p1 ∧ Aside0 p2 ∧ Aside0 p3 ∧ Aside0 p4 ∧ Aside0 p5 ∧ Aside0 p6 := ⟨⟨h0⟩, ⟨h1⟩, ⟨h2⟩, ⟨h3⟩, ⟨h4⟩, ⟨h5⟩, ⟨h6⟩⟩
theorem zD11 {p0 p1 p2 p3 p4 p5 p6 p7 p8 p9 p10 : Prop} (h0 : p0) (h1 : p1) (h2 : p2) (h3 : p3) (h4 : p4) (h5 : p5) (h6 : p6) (h7 : p7) (h8 : p8) (h9 : p9) (h10 : p10) : Aside0 p0 ∧ Aside0 p1 ∧ Aside0 p2 ∧ Aside0 p3 ∧ Aside0 p4 ∧ Aside0 p5 ∧ Aside0 p6 ∧ Aside0 p7 ∧ Aside0 p8 ∧ Aside0 p9 ∧ Aside0 p10 := ⟨⟨h0⟩, ⟨h1⟩, ⟨h2⟩, ⟨h3⟩, ⟨h4⟩, ⟨h5⟩, ⟨h6⟩, ⟨h7⟩, ⟨h8⟩, ⟨h9⟩, ⟨h10⟩⟩
theorem zH0 {p : Prop} (h : p := by (with_reducible repeat (first | refine zh ?_ _ | refine zj ?_ | refine zg ?_ _)); refine zr (cs := #[.int .i64 t224, .int .i64 t225, .int .i64 t226, .slice none 0 0]) ?_ 3 _ rfl; (with_reducible repeat (first | refine zh ?_ _ | refine zj ?_ | refine zg ?_ _)); refine zr (cs := #[.int .i64 t224, .int .i64 t225, .int .i64 0, .slice none 0 0]) ?_ 2 _ rfl; (with_reducible repeat (first | refine zh ?_ _ | refine zj ?_ | refine zg ?_ _)); refine zr (cs := #[.int .i64 t224, .int .i64 0, .int .i64 0, .slice none 0 0]) ?_ 1 _ rfl; (with_reducible repeat (first | refine zh ?_ _ | refine zj ?_ | refine zg ?_ _)); refine zr (cs := #[.int .i64 0, .int .i64 0, .int .i64 0, .slice none 0 0]) ?_ 0 _ rfl; (with_reducible repeat (first | refine zh ?_ _ | refine zj ?_ | refine zg ?_ _)); exact BK231.out) : p := h
theorem zH1 {p : Prop} (h : p := by exact ⟨_, by first | rfl | (simp [errW_none, errW_some] <;> rfl) | (simp [*, errW_none, errW_some] <;> rfl), by (with_reducible repeat (first | apply zl | apply zk | apply zm)); exact HO_1003.out, (by (with_reducible repeat (first | refine zh ?_ _ | refine zj ?_ | refine zg ?_ _)); exact BK0.out), by repeat (first | (with_reducible first | exact HB.out | apply zf | apply zc | apply ze | refine zi ?_ GE0.out | refine zi ?_ GE186.out) | exact HB.out), by repeat (first | (with_reducible first | exact HK.out | apply Kept.alloc | apply Kept.drewN | apply Kept.drew | refine Kept.setCell ?_ (.inl (Or.inr rfl)) _ | refine Kept.setCell ?_ (.inr GW186.out) _) | exact HK.out)⟩) : p := h
theorem zH2 {p : Prop} (h : p := by exact ⟨by first | rfl | (simp [errW_none, errW_some] <;> rfl) | (simp [*, errW_none, errW_some] <;> rfl), by repeat (first | (with_reducible first | exact HI0.out | apply IsS66.alloc | apply IsS66.drewN | apply IsS66.drew | apply IsS66.set_1 | apply IsS66.set_2) | exact HI0.out), by repeat (first | (with_reducible first | exact HB.out | apply zf | apply zc | apply ze | refine zi ?_ (IsS66.ge HI0.out)) | exact HB.out), by repeat (first | (with_reducible first | exact HK.out | apply zo | apply keep_drewN | apply keep_drew | apply keep_alloc) | exact HK.out)⟩) : p := h
theorem zH3 {p : Prop} (h : p := by exact ⟨_, _, by first | rfl | (simp [errW_none, errW_some] <;> rfl) | (simp [*, errW_none, errW_some] <;> rfl), by first | exact zav _ _ _ _ _ | exact zaw _ _ _ _ _ | exact zax _ _ _ _ _ | exact zay _ _ _ _ _ | exact zaz _ _ _ _ _, by first | exact zav _ _ _ _ _ | exact zaw _ _ _ _ _ | exact zax _ _ _ _ _ | exact zay _ _ _ _ _ | exact zaz _ _ _ _ _, by repeat (first | (with_reducible first | exact HB.out | apply zf | apply zc | apply ze | refine zi ?_ GE193.out) | exact HB.out)⟩) : p := h
theorem zH4 {p : Prop} (h : p := by exact ⟨by first | rfl | (simp; done), by repeat (first | (with_reducible first | exact HI0.out | apply IsS66.alloc | apply IsS66.drewN | apply IsS66.drew | apply IsS66.set_1 | apply IsS66.set_2) | exact HI0.out), by repeat (first | (with_reducible first | exact HB.out | apply zf | apply zc | apply ze | refine zi ?_ HG0) | exact HB.out), by repeat (first | (with_reducible first | exact HK.out | apply keep_alloc | apply keep_drewN | apply keep_drew | apply zo) | exact HK.out)⟩) : p := h
theorem zH5 {p : Prop} (h : p := by (with_reducible repeat (first | apply zl | apply zk | apply zm)); exact zn (zq (p := ⟨gb231, 3, none⟩) (zq (p := ⟨gb231, 2, none⟩) (zq (p := ⟨gb231, 1, none⟩) (zq (p := ⟨gb231, 0, none⟩) (zae HO229.out BK231.out zG64) (fun _ hk => hk.2) (.int .i64 t224)) (fun _ hk => hk.2) (.int .i64 t225)) (fun _ hk => hk.2) (.int .i64 t226)) (fun _ hk => hk.2) (.slice Ao18 t227.length co18)) (fun _ hk => trivial)) : p := h
theorem zH6 {p : Prop} (h : p := by repeat (first | exact (by repeat (first | (with_reducible exact HR220.out) | (with_reducible refine zz ?_ _) | (with_reducible refine zaa ?_ _) | (with_reducible refine zad ?_) | exact HR220.out)) | (with_reducible refine zz ?_ _) | (with_reducible refine zaa ?_ _) | (with_reducible refine zad ?_))) : p := h
theorem zH7 {p : Prop} (h : p := by repeat (first | (with_reducible first | exact HI0.out | apply IsS66.alloc | apply IsS66.drewN | apply IsS66.drew | apply IsS66.set_1 | apply IsS66.set_2 | refine IsS66.far ?_ (IsS66.ne_blk HI0.out BK138.out zG64) _ | refine IsS66.far ?_ NB0_138.out _) | exact HI0.out)) : p := h
theorem zH8 {p : Prop} (h : p := by repeat (first | (with_reducible first | exact HI0.out | apply IsS66.alloc | apply IsS66.drewN | apply IsS66.drew | apply IsS66.set_1 | apply IsS66.set_2 | refine IsS66.far ?_ (IsS66.ne_blk HI0.out BK138.out zG64) _ | refine IsS66.far ?_ NB0_138.out _) | exact HI0.out)) : p := h
theorem zH9 {p : Prop} (h : p := by exact ⟨by first | rfl | (simp [errW_none, errW_some] <;> rfl) | (simp [*, errW_none, errW_some] <;> rfl), by repeat (first | (with_reducible first | exact HB.out | apply zf | apply zc | apply ze | refine zi ?_ GE231.out | refine zi ?_ GE234.out) | exact HB.out)⟩) : p := h
theorem zH10 {p : Prop} (h : p := by exact ⟨by first | rfl | (simp [errW_none, errW_some] <;> rfl) | (simp [*, errW_none, errW_some] <;> rfl), by repeat (first | (with_reducible first | exact HB.out | apply zf | apply zc | apply ze | refine zi ?_ GE231.out) | exact HB.out)⟩) : p := h
theorem zH11 {p : Prop} (h : p := by repeat (first | (with_reducible first | exact HK.out | apply Kept.alloc | apply Kept.drewN | apply Kept.drew | refine Kept.setCell ?_ (.inl (Or.inr rfl)) _ | refine Kept.setCell ?_ (.inr GW186.out) _) | exact HK.out)) : p := h
theorem zH12 {p : Prop} (h : p := by repeat (first | (with_reducible first | exact HI175.out | apply IsS66.alloc | apply IsS66.drewN | apply IsS66.drew | apply IsS66.set_1 | apply IsS66.set_2) | exact HI175.out)) : p := h
theorem zH13 {p : Prop} (h : p := by repeat (first | (with_reducible first | exact HI0.out | apply IsS66.alloc | apply IsS66.drewN | apply IsS66.drew | apply IsS66.set_1 | apply IsS66.set_2) | exact HI0.out)) : p := h
theorem zH14 {p : Prop} (h : p := by repeat (first | (with_reducible first | exact HK.out | apply zo | apply keep_drewN | apply keep_drew | apply keep_alloc | refine keep_far ?_ GW138.out _) | exact HK.out)) : p := h
theorem zH15 {p : Prop} (h : p := by repeat (first | (with_reducible first | exact HI0.out | apply IsS66.alloc | apply IsS66.drewN | apply IsS66.drew | apply IsS66.set_1 | apply IsS66.set_2) | exact HI0.out)) : p := h
theorem zH16 {p : Prop} (h : p := by repeat (first | (with_reducible first | exact HB.out | apply zf | apply zc | apply ze | refine zi ?_ (IsS66.ge HI0.out) | refine zi ?_ GE138.out) | exact HB.out)) : p := h
theorem zH17 {p : Prop} (h : p := by exact ⟨v4_, rfl, zn HR9.out (fun _ h => .inl h.1), HB9.out, HW9.out, (HK3.out.mono (fun _ h => h.elim)).then_ HK9.out (fun _ h => .inl (h.imp (fun h => h.1) id))⟩) : p := h
theorem zH18 {p : Prop} (h : p := by repeat (first | (with_reducible first | exact HB.out | apply zf | apply zc | apply ze | refine zi ?_ (IsS66.ge HI0.out) | refine zi ?_ GE138.out) | exact HB.out)) : p := h
theorem zH19 {p : Prop} (h : p := by repeat (first | (with_reducible first | exact HB.out | apply zf | apply zc | apply ze | refine zi ?_ GE193.out | refine zi ?_ GE199.out) | exact HB.out)) : p := h
theorem zH20 {p : Prop} (h : p := by repeat (first | (with_reducible first | exact HB.out | apply zf | apply zc | apply ze | refine zi ?_ GE0.out | refine zi ?_ GE186.out) | exact HB.out)) : p := h
theorem zH21 {p : Prop} (h : p := by repeat (first | exact (zag HR0.out HB.out) | (with_reducible refine zz ?_ _) | (with_reducible refine zaa ?_ _) | (with_reducible refine zad ?_))) : p := h
theorem zH22 {p : Prop} (h : p := by repeat (first | exact (zag HR1.out HB.out) | (with_reducible refine zz ?_ _) | (with_reducible refine zaa ?_ _) | (with_reducible refine zad ?_))) : p := h
theorem zH23 {p : Prop} (h : p := by repeat (first | (with_reducible first | exact HB.out | apply zf | apply zc | apply ze | refine zi ?_ (IsS66.ge HI0.out)) | exact HB.out)) : p := h
theorem zH24 {p : Prop} (h : p := by repeat (first | (with_reducible first | exact HK.out | apply zo | apply keep_drewN | apply keep_drew | apply keep_alloc) | exact HK.out)) : p := h
theorem zH25 {p : Prop} (h : p := by repeat (first | (with_reducible first | exact HB.out | apply zf | apply zc | apply ze | refine zi ?_ (IsS66.ge HI175.out)) | exact HB.out)) : p := h
theorem zH26 {p : Prop} (h : p := by repeat (first | (with_reducible first | exact HB.out | apply zf | apply zc | apply ze | refine zi ?_ (IsS66.ge HI0.out)) | exact HB.out)) : p := h
theorem zH27 {p : Prop} (h : p := by repeat (first | (with_reducible first | exact HB.out | apply zf | apply zc | apply ze | refine zi ?_ GE231.out) | exact HB.out)) : p := h
theorem zH28 {p : Prop} (h : p := by exact ⟨by first | rfl | (simp; done) | (simp [*]; done), by repeat (first | exact Drawn0.refl _ | apply Drawn0.step)⟩) : p := h
theorem zH29 {p : Prop} (h : p := by repeat (first | (with_reducible first | exact HB.out | apply zf | apply zc | apply ze) | exact HB.out)) : p := h
theorem zH30 {p : Prop} (h : p := by exact ⟨_, rfl, zn HR3.out (fun _ h => .inl h.1), BK3.out, HB3.out, HK3.out.mono (fun _ h => h.elim)⟩) : p := h
theorem zH31 {p : Prop} (h : p := by (with_reducible repeat (first | refine zh ?_ _ | refine zj ?_ | refine zg ?_ _)); exact BK186.out) : p := h
theorem zH32 {p : Prop} (h : p := by (with_reducible repeat (first | refine zh ?_ _ | refine zj ?_ | refine zg ?_ _)); exact BK0.out) : p := h
theorem zH33 {p : Prop} (h : p := by first | rfl | (simp [errW_none, errW_some] <;> rfl) | (simp [*, errW_none, errW_some] <;> rfl)) : p := h
theorem zH34 {p : Prop} (h : p := by (with_reducible repeat (first | apply zl | apply zk | apply zm)); exact HO0_3.out) : p := h
theorem zH35 {p : Prop} (h : p := by have := HJ2.out; first | omega | exact Nat.le_refl _) : p := h
theorem zH36 {p : Prop} (h : p := by first | rfl | (simp; done) | (simp [*]; done)) : p := h
theorem zH37 {p : Prop} (h : p := by first | (go_simp; done) | (go_simp; rfl)) : p := h
theorem zH38 {p : Prop} (h : p := by first | omega | exact Nat.le_refl _) : p := h
theorem zK39 {p : Prop} (h : p := by (with_reducible repeat (first | refine zh ?_ _ | refine zj ?_ | refine zg ?_ _)); refine zr (cs := #[.int .i64 (wrap64 (1 + t126)), .int .i64 (wrap64 (1 + t129)), .int .i64 (wrap64 (1 + t132)), .int .i64 0]) ?_ 3 _ rfl; (with_reducible repeat (first | refine zh ?_ _ | refine zj ?_ | refine zg ?_ _)); refine zr (cs := #[.int .i64 (wrap64 (1 + t126)), .int .i64 (wrap64 (1 + t129)), .int .i64 0, .int .i64 0]) ?_ 2 _ rfl; (with_reducible repeat (first | refine zh ?_ _ | refine zj ?_ | refine zg ?_ _)); refine zr (cs := #[.int .i64 (wrap64 (1 + t126)), .int .i64 0, .int .i64 0, .int .i64 0]) ?_ 1 _ rfl; (with_reducible repeat (first | refine zh ?_ _ | refine zj ?_ | refine zg ?_ _)); refine zr (cs := #[.int .i64 0, .int .i64 0, .int .i64 0, .int .i64 0]) ?_ 0 _ rfl; (with_reducible repeat (first | refine zh ?_ _ | refine zj ?_ | refine zg ?_ _)); exact BK138.out) : p := h
theorem zK40 {p : Prop} (h : p := by (with_reducible repeat (first | refine zh ?_ _ | refine zj ?_ | refine zg ?_ _)); refine zr (cs := #[.int .i64 0, .int .i64 0, .int .i64 0, .slice none 0 0]) ?_ 3 _ rfl; (with_reducible repeat (first | refine zh ?_ _ | refine zj ?_ | refine zg ?_ _)); refine zr (cs := #[.int .i64 0, .int .i64 0, .int .i64 0, .slice none 0 0]) ?_ 2 _ rfl; (with_reducible repeat (first | refine zh ?_ _ | refine zj ?_ | refine zg ?_ _)); refine zr (cs := #[.int .i64 0, .int .i64 0, .int .i64 0, .slice none 0 0]) ?_ 1 _ rfl; (with_reducible repeat (first | refine zh ?_ _ | refine zj ?_ | refine zg ?_ _)); refine zr (cs := #[.int .i64 0, .int .i64 0, .int .i64 0, .slice none 0 0]) ?_ 0 _ rfl; (with_reducible repeat (first | refine zh ?_ _ | refine zj ?_ | refine zg ?_ _)); exact BK193.out) : p := h
theorem zK41 {p : Prop} (h : p := by (with_reducible repeat (first | apply zl | apply zk | apply zm)); exact (zn (zq (p := ⟨gb138, 3, none⟩) (zq (p := ⟨gb138, 2, none⟩) (zq (p := ⟨gb138, 1, none⟩) (zq (p := ⟨gb138, 0, none⟩) (zn HO_3.out (fun k_ hk => (⟨hk, hk⟩ : _ ∧ k_ ≠ gb138))) (fun _ hk => hk.2) (.int .i64 (wrap64 (1 + t126)))) (fun _ hk => hk.2) (.int .i64 (wrap64 (1 + t129)))) (fun _ hk => hk.2) (.int .i64 (wrap64 (1 + t132)))) (fun _ hk => hk.2) (.int .i64 (wrap64 (1 + t135)))) (fun _ h_ => h_.1))) : p := h
theorem zK42 {p : Prop} (h : p := by repeat (first | (with_reducible first | exact HI0.out | apply IsS66.alloc | apply IsS66.drewN | apply IsS66.drew | apply IsS66.set_1 | apply IsS66.set_2 | refine IsS66.far ?_ (IsS66.ne_blk HI0.out BK138.out zG64) _ | refine IsS66.far ?_ NB0_138.out _) | exact HI0.out)) : p := h
theorem zK43 {p : Prop} (h : p := by repeat (first | (with_reducible first | exact (Q_HI0_e1 h0_ h1_) | apply IsS66.alloc | apply IsS66.drewN | apply IsS66.drew | apply IsS66.set_1 | apply IsS66.set_2 | refine IsS66.far ?_ NB0_138.out _) | exact (Q_HI0_e1 h0_ h1_))) : p := h
theorem zK44 {p : Prop} (h : p := by repeat (first | (with_reducible first | exact (Q_HI0_e4 h0_ h1_) | apply IsS66.alloc | apply IsS66.drewN | apply IsS66.drew | apply IsS66.set_1 | apply IsS66.set_2 | refine IsS66.far ?_ NB0_138.out _) | exact (Q_HI0_e4 h0_ h1_))) : p := h
theorem zK45 {p : Prop} (h : p := by repeat (first | (with_reducible first | exact (Q_HI0_e9 h0_ h1_) | apply IsS66.alloc | apply IsS66.drewN | apply IsS66.drew | apply IsS66.set_1 | apply IsS66.set_2 | refine IsS66.far ?_ NB0_138.out _) | exact (Q_HI0_e9 h0_ h1_))) : p := h
theorem zK46 {p : Prop} (h : p := by repeat (first | (with_reducible first | exact (Q_HI0_e14 h0_) | apply IsS66.alloc | apply IsS66.drewN | apply IsS66.drew | apply IsS66.set_1 | apply IsS66.set_2 | refine IsS66.far ?_ NB0_138.out _) | exact (Q_HI0_e14 h0_))) : p := h
theorem zK47 {p : Prop} (h : p := by repeat (first | (with_reducible first | exact (Q_HI0 h0_) | apply IsS66.alloc | apply IsS66.drewN | apply IsS66.drew | apply IsS66.set_1 | apply IsS66.set_2 | refine IsS66.far ?_ NB0_138.out _) | exact (Q_HI0 h0_))) : p := h
theorem zK48 {p : Prop} (h : p := by repeat (first | (with_reducible first | exact HB.out | apply zf | apply zc | apply ze | refine zi ?_ GE193.out | refine zi ?_ GE199.out | refine zi ?_ GE201.out) | exact HB.out)) : p := h
theorem zK49 {p : Prop} (h : p := by repeat (first | (with_reducible first | exact HI0.out | apply IsS66.alloc | apply IsS66.drewN | apply IsS66.drew | apply IsS66.set_1 | apply IsS66.set_2) | exact HI0.out)) : p := h
theorem zK50 {p : Prop} (h : p := by repeat (first | (with_reducible exact HR220.out) | (with_reducible refine zz ?_ _) | (with_reducible refine zaa ?_ _) | (with_reducible refine zad ?_) | exact HR220.out)) : p := h
theorem zK51 {p : Prop} (h : p := by repeat (first | (with_reducible first | exact HB.out | apply zf | apply zc | apply ze | refine zi ?_ (IsS66.ge HI0.out) | refine zi ?_ GE138.out) | exact HB.out)) : p := h
theorem zK52 {p : Prop} (h : p := by repeat (first | (with_reducible first | exact HB.out | apply zf | apply zc | apply ze | refine zi ?_ GE193.out | refine zi ?_ GE199.out) | exact HB.out)) : p := h
theorem zK53 {p : Prop} (h : p := by repeat (first | (with_reducible first | exact HB.out | apply zf | apply zc | apply ze | refine zi ?_ GE0.out | refine zi ?_ GE186.out) | exact HB.out)) : p := h
theorem zK54 {p : Prop} (h : p := by repeat (first | (with_reducible first | exact HB.out | apply zf | apply zc | apply ze | refine zi ?_ (IsS66.ge HI0.out)) | exact HB.out)) : p := h
theorem zK55 {p : Prop} (h : p := by repeat (first | (with_reducible first | exact HB.out | apply zf | apply zc | apply ze | refine zi ?_ GE138.out) | exact HB.out)) : p := h
theorem zK56 {p : Prop} (h : p := by repeat (first | (with_reducible first | exact HB.out | apply zf | apply zc | apply ze | refine zi ?_ GE0.out) | exact HB.out)) : p := h
theorem zK57 {p : Prop} (h : p := by first | (rw [add_block]; exact hn232_0) | (show (Addr.add _ _).block ≠ _; rw [add_block]; exact hn232_0) | exact hn232_0) : p := h
theorem zK58 {p : Prop} (h : p := by first | (rw [add_block]; exact hn232_1) | (show (Addr.add _ _).block ≠ _; rw [add_block]; exact hn232_1) | exact hn232_1) : p := h
theorem zK59 {p : Prop} (h : p := by first | (rw [add_block]; exact hn232_2) | (show (Addr.add _ _).block ≠ _; rw [add_block]; exact hn232_2) | exact hn232_2) : p := h
theorem zK60 {p : Prop} (h : p := by first | (rw [add_block]; exact hn232_3) | (show (Addr.add _ _).block ≠ _; rw [add_block]; exact hn232_3) | exact hn232_3) : p := h
theorem zK61 {p : Prop} (h : p := by (with_reducible repeat (first | refine zh ?_ _ | refine zj ?_ | refine zg ?_ _)); exact BK199.out) : p := h
theorem zK62 {p : Prop} (h : p := by (with_reducible repeat (first | refine zh ?_ _ | refine zj ?_ | refine zg ?_ _)); exact BK0.out) : p := h
theorem zK63 {p : Prop} (h : p := by (with_reducible repeat (first | apply zl | apply zk | apply zm)); exact HO_232003.out) : p := h
theorem zK64 {p : Prop} (h : p := by (with_reducible repeat (first | apply zl | apply zk | apply zm)); exact (Q_HO147 h0_)) : p := h
theorem zK65 {p : Prop} (h : p := by (with_reducible repeat (first | apply zl | apply zk | apply zm)); exact (Q_HO154 h0_)) : p := h
theorem zK66 {p : Prop} (h : p := by (with_reducible repeat (first | apply zl | apply zk | apply zm)); exact (Q_HO161 h0_)) : p := h
theorem zK67 {p : Prop} (h : p := by (with_reducible repeat (first | apply zl | apply zk | apply zm)); exact HO215.out) : p := h
theorem zK68 {p : Prop} (h : p := by (with_reducible repeat (first | apply zl | apply zk | apply zm)); exact HO223.out) : p := h
theorem zK69 {p : Prop} (h : p := by (with_reducible repeat (first | apply zl | apply zk | apply zm)); exact HO229.out) : p := h
theorem zK70 {p : Prop} (h : p := by (with_reducible repeat (first | apply zl | apply zk | apply zm)); exact HO_8.out) : p := h
theorem zK71 {p : Prop} (h : p := by first | rfl | (simp; done) | (simp [*]; done)) : p := h
end Go.Proofs.Ytdohpbhljifodaa.D
