-- squeezed
-- made by pp.py (wip/tools) out of the translation; Lean checks it
import Derived.Test.YtojncbpeeboooaaProg
import Derived.Below
import Derived.Deep.Draws
import Derived.Deep.AppendLies
import Derived.Maps.AppendAt
import Derived.OwnWalk
import Derived.Laws.BytesArg
import Derived.Laws.MakeOwn
import Derived.Laws.OwnMore
import Derived.Deep.OwnRows
import Derived.Tactics
import Derived.Lib.ConvBytes
import Derived.Laws.Slices
import Derived.WalkKit
import Derived.KernelRfl
import Derived.RowKit3
import Derived.Deep.LoopGhost
import Derived.Deep.QuietTactic
import Derived.BigQuiet
import Derived.WideLaws
import Derived.Deep.DeepCutAuto
import Derived.Deep.CutBlock
import Derived.Deep.RegionHeld3
import Derived.Laws.Rows
import Derived.Lib.AppendStr
import Derived.ArgAppend
import Derived.Laws.IdiomCopy
import Derived.OrdersHeld
import Derived.Laws.BitsLemmas
import Derived.RowKit
import Derived.Test.YtojncbpeeboooaaFloat
import Derived.Test.YtojncbpeeboooaaWWords
import Derived.Test.YtojncbpeeboooaaWLast
import Derived.Test.YtojncbpeeboooaaWTab
import Derived.Test.YtojncbpeeboooaaWFour
import Derived.Test.YtojncbpeeboooaaWQPut
import Derived.Test.YtojncbpeeboooaaWApart
import Derived.Test.YtojncbpeeboooaaWArr
import Derived.Test.YtojncbpeeboooaaWZeros
import Derived.Test.YtojncbpeeboooaaWFoot
import Derived.Test.YtojncbpeeboooaaWKept
import Derived.Test.YtojncbpeeboooaaWShare
import Derived.Test.YtojncbpeeboooaaWN
import Derived.Test.YtojncbpeeboooaaWFootNe
import Derived.Test.YtojncbpeeboooaaWAt
import Derived.Test.YtojncbpeeboooaaWEqStruct
import Derived.Test.YtojncbpeeboooaaWRepsOne
import Derived.Test.YtojncbpeeboooaaWInv
import Derived.Test.YtojncbpeeboooaaWInvWords
import Derived.Test.YtojncbpeeboooaaWGuard
import Derived.Test.YtojncbpeeboooaaWNEv
import Derived.Test.YtojncbpeeboooaaWMore
namespace Go.Proofs.Ytojncbpeeboooaa.X
open Go.RowKit Go.Proofs.YtojncbpeeboooaaW.PrintWords Go.Proofs.YtojncbpeeboooaaW.PrintLast Go.Proofs.YtojncbpeeboooaaW.PrintMore
attribute [local go_sem] max2_int min2_int max_two min_two max_three min_three max_four min_four   -- for this text's walks alone
set_option linter.unusedVariables false
set_option linter.unusedSimpArgs false




def errW : Option Int → Value
 | none => .nilIface
 | some c => .iface 0 (.int .i64 c)
theorem errW_none : errW none = .nilIface := rfl
theorem errW_some (c : Int) : errW (some c) = .iface 0 (.int .i64 c) := rfl

theorem info3 : (Try.prog.info? 3).map (fun i => (i.zero, i.size, i.bytes)) = some (some (.int .i64 0), 1, 8) := by kernel_rfl
theorem info4 : (Try.prog.info? 4).map (fun i => (i.zero, i.size, i.bytes)) = some (some (.bool false), 1, 1) := by kernel_rfl
theorem info5 : (Try.prog.info? 5).map (fun i => (i.zero, i.size, i.bytes)) = some (some (.int .u8 0), 1, 1) := by kernel_rfl
theorem info9 : (Try.prog.info? 9).map (fun i => (i.zero, i.size, i.bytes)) = some (some (.string ⟨#[]⟩), 1, 16) := by kernel_rfl
theorem info58 : (Try.prog.info? 58).map (fun i => (i.zero, i.size, i.bytes)) = some (some (.agg #[(.string ⟨#[]⟩), (.int .i64 0), (.slice none 0 0)]), 3, 48) := by kernel_rfl
theorem info124 : (Try.prog.info? 124).map (fun i => (i.zero, i.size, i.bytes)) = some (some (.agg #[(.string ⟨#[]⟩), (.int .i64 0)]), 2, 24) := by kernel_rfl
-- the values' own types
/-! #### struct type 124 -/
structure S124 where
 f0 : ByteArray
 f1 : Int
def z124 : S124 := ⟨(⟨#[]⟩ : ByteArray), (0 : Int)⟩
def k124 : Kd S124 := Kd.iso (Kd.pair Kd.string (Kd.int .i64)) (fun x : S124 => (x.f0, x.f1))
theorem k124_heap : Kd.Heap k124 := Kd.heap_iso _ (Kd.heap_pair Kd.heap_string (Kd.heap_int .i64))
theorem k124_open {w : World} {x : S124} {cs : List Value} (h : k124.K w x cs) : cs = [.string x.f0, .int .i64 x.f1] := by
 obtain ⟨_, _, rfl, rfl, rfl⟩ := h
 exact rfl
theorem k124_openM {w : World} {base : Nat} {ok : Nat → Prop} {x : S124} {cs : List Value} (h : k124.M w base ok x cs) : cs = [.string x.f0, .int .i64 x.f1] := by
 obtain ⟨_, _, rfl, rfl, rfl⟩ := h
 exact rfl
theorem k124_mk (w : World) (x : S124)  : k124.K w x [.string x.f0, .int .i64 x.f1] := ⟨[.string x.f0], [.int .i64 x.f1], rfl, rfl, rfl⟩
theorem k124_mkM (w : World) (base : Nat) (ok : Nat → Prop) (x : S124)  : k124.M w base ok x [.string x.f0, .int .i64 x.f1] := ⟨[.string x.f0], [.int .i64 x.f1], rfl, rfl, rfl⟩
theorem k124_mkF (W : World) (ok : Nat → Prop) (x : S124) : Kd.FK k124 W ok x [.string x.f0, .int .i64 x.f1] := fun W2 _ => k124_mk W2 x
def rd_T124 (xs : List S124) (i : Int) : S124 := xs.getD i.toNat z124
theorem at_T124 {w : World} {A : Option Addr} {n : Nat} {xs : List S124} (h : Kd.C k124 w A n xs) (i : Int) (h0 : 0 ≤ i) (h1 : i < n) : ∃ ad , A = some ad ∧ w.cell? (ad.add (i.toNat * 2)) = some (.string (rd_T124 xs i).f0) ∧ w.cell? ⟨(ad.add (i.toNat * 2)).block, (ad.add (i.toNat * 2)).off + 1, none⟩ = some (.int .i64 (rd_T124 xs i).f1) := by
 obtain ⟨ad, c, e, _, hK, hc0⟩ := Kd.C_get h z124 i h0 h1
 have hc : ∀ j u, c[j]? = some u → w.cell? (ad.add (i.toNat * 2 + j)) = some u := hc0
 obtain rfl := k124_open hK
 exact ⟨ad, e, hc 0 _ rfl, by rw [← add_field _ _ 1 (by omega)]; exact hc 1 _ rfl⟩

def rd_L4 (xs : List (List S124)) (i : Int) : (List S124) := xs.getD i.toNat ([] : List S124)
theorem at_L4 {w : World} {A : Option Addr} {n : Nat} {xs : List (List S124)} (h : Kd.C (Kd.slice 124 k124) w A n xs) (i : Int) (h0 : 0 ≤ i) (h1 : i < n) : ∃ ad A0 c0, A = some ad ∧ w.cell? (ad.add i.toNat) = some (.slice A0 (rd_L4 xs i).length c0) ∧ (rd_L4 xs i).length ≤ c0 ∧ k124.C w A0 (rd_L4 xs i).length (rd_L4 xs i) := by
 obtain ⟨ad, c, e, _, hK, hc0⟩ := Kd.C_get h ([] : List S124) i h0 h1
 have hc : ∀ j u, c[j]? = some u → w.cell? (ad.add (i.toNat * 1 + j)) = some u := hc0
 obtain ⟨A0, c0, rfl, l0, g0⟩ := hK
 exact ⟨ad, A0, c0, e, by have hq := hc 0 _ rfl; rwa [Nat.mul_one, Nat.add_zero] at hq, l0, g0⟩

/-! #### struct type 58 -/
structure S58 where
 f0 : ByteArray
 f1 : Int
 f2 : (List S124)
def z58 : S58 := ⟨(⟨#[]⟩ : ByteArray), (0 : Int), ([] : List S124)⟩
def k58 : Kd S58 := Kd.iso (Kd.pair Kd.string (Kd.pair (Kd.int .i64) (Kd.slice 124 k124))) (fun x : S58 => (x.f0, x.f1, x.f2))
theorem k58_heap : Kd.Heap k58 := Kd.heap_iso _ (Kd.heap_pair Kd.heap_string (Kd.heap_pair (Kd.heap_int .i64) (Kd.heap_slice 124 k124_heap)))
theorem k58_open {w : World} {x : S58} {cs : List Value} (h : k58.K w x cs) : ∃ A2 c2, cs = [.string x.f0, .int .i64 x.f1, .slice A2 x.f2.length c2] ∧ x.f2.length ≤ c2 ∧ k124.C w A2 x.f2.length x.f2 := by
 obtain ⟨_, _, rfl, rfl, ⟨_, _, rfl, rfl, ⟨A2, c2, rfl, l2, g2⟩⟩⟩ := h
 exact ⟨A2, c2, rfl, l2, g2⟩
theorem k58_openM {w : World} {base : Nat} {ok : Nat → Prop} {x : S58} {cs : List Value} (h : k58.M w base ok x cs) : ∃ v2, cs = [.string x.f0, .int .i64 x.f1, v2] ∧ k124.R 124 w base ok v2 x.f2 := by
 obtain ⟨_, _, rfl, rfl, ⟨_, _, rfl, rfl, ⟨v2, rfl, g2⟩⟩⟩ := h
 exact ⟨v2, rfl, g2⟩
theorem k58_mk (w : World) (x : S58) {A2 : Option Addr} {c2 : Nat} (l2 : x.f2.length ≤ c2) (g2 : k124.C w A2 x.f2.length x.f2) : k58.K w x [.string x.f0, .int .i64 x.f1, .slice A2 x.f2.length c2] := ⟨[.string x.f0], [.int .i64 x.f1, .slice A2 x.f2.length c2], rfl, rfl, ⟨[.int .i64 x.f1], [.slice A2 x.f2.length c2], rfl, rfl, ⟨A2, c2, rfl, l2, g2⟩⟩⟩
theorem k58_mkM (w : World) (base : Nat) (ok : Nat → Prop) (x : S58) {v2 : Value} (g2 : k124.R 124 w base ok v2 x.f2) : k58.M w base ok x [.string x.f0, .int .i64 x.f1, v2] := ⟨[.string x.f0], [.int .i64 x.f1, v2], rfl, rfl, ⟨[.int .i64 x.f1], [v2], rfl, rfl, ⟨v2, rfl, g2⟩⟩⟩
theorem k58_openF {W : World} {ok : Nat → Prop} {x : S58} {cs : List Value} (h : Kd.FK k58 W ok x cs) : ∃ A2 c2, cs = [.string x.f0, .int .i64 x.f1, .slice A2 x.f2.length c2] ∧ x.f2.length ≤ c2 ∧ Kd.F k124 W ok A2 x.f2.length x.f2 := by
 obtain ⟨A2, c2, rfl, l2, _⟩ := k58_open (Kd.FK_now h)
 exact ⟨A2, c2, rfl, l2, (fun W' hW => by obtain ⟨A2_, c2_, he, l2_, g2_⟩ := k58_open (h W' hW); injection (Option.some.inj (show some (Value.slice A2 x.f2.length c2) = some (Value.slice A2_ x.f2.length c2_) from congrArg (fun l => l[2]?) he)) with ha_ _ _; rw [ha_]; exact g2_)⟩
theorem k58_mkF (W : World) (ok : Nat → Prop) (x : S58) {A2 : Option Addr} {c2 : Nat} (l2 : x.f2.length ≤ c2) (g2 : Kd.F k124 W ok A2 x.f2.length x.f2) : Kd.FK k58 W ok x [.string x.f0, .int .i64 x.f1, .slice A2 x.f2.length c2] := fun W2 hW => k58_mk W2 x l2 (g2 W2 hW)
def rd_T58 (xs : List S58) (i : Int) : S58 := xs.getD i.toNat z58
theorem at_T58 {w : World} {A : Option Addr} {n : Nat} {xs : List S58} (h : Kd.C k58 w A n xs) (i : Int) (h0 : 0 ≤ i) (h1 : i < n) : ∃ ad A2 c2, A = some ad ∧ w.cell? (ad.add (i.toNat * 3)) = some (.string (rd_T58 xs i).f0) ∧ w.cell? ⟨(ad.add (i.toNat * 3)).block, (ad.add (i.toNat * 3)).off + 1, none⟩ = some (.int .i64 (rd_T58 xs i).f1) ∧ w.cell? ⟨(ad.add (i.toNat * 3)).block, (ad.add (i.toNat * 3)).off + 2, none⟩ = some (.slice A2 (rd_T58 xs i).f2.length c2) ∧ (rd_T58 xs i).f2.length ≤ c2 ∧ k124.C w A2 (rd_T58 xs i).f2.length (rd_T58 xs i).f2 := by
 obtain ⟨ad, c, e, _, hK, hc0⟩ := Kd.C_get h z58 i h0 h1
 have hc : ∀ j u, c[j]? = some u → w.cell? (ad.add (i.toNat * 3 + j)) = some u := hc0
 obtain ⟨A2, c2, rfl, l2, g2⟩ := k58_open hK
 exact ⟨ad, A2, c2, e, hc 0 _ rfl, by rw [← add_field _ _ 1 (by omega)]; exact hc 1 _ rfl, by rw [← add_field _ _ 2 (by omega)]; exact hc 2 _ rfl, l2, g2⟩

def rd_L7 (xs : List (List Int)) (i : Int) : (List Int) := xs.getD i.toNat ([] : List Int)
theorem at_L7 {w : World} {A : Option Addr} {n : Nat} {xs : List (List Int)} (h : Kd.C (Kd.slice 5 (Kd.int .u8)) w A n xs) (i : Int) (h0 : 0 ≤ i) (h1 : i < n) : ∃ ad A0 c0, A = some ad ∧ w.cell? (ad.add i.toNat) = some (.slice A0 (rd_L7 xs i).length c0) ∧ (rd_L7 xs i).length ≤ c0 ∧ (Kd.int .u8).C w A0 (rd_L7 xs i).length (rd_L7 xs i) := by
 obtain ⟨ad, c, e, _, hK, hc0⟩ := Kd.C_get h ([] : List Int) i h0 h1
 have hc : ∀ j u, c[j]? = some u → w.cell? (ad.add (i.toNat * 1 + j)) = some u := hc0
 obtain ⟨A0, c0, rfl, l0, g0⟩ := hK
 exact ⟨ad, A0, c0, e, by have hq := hc 0 _ rfl; rwa [Nat.mul_one, Nat.add_zero] at hq, l0, g0⟩

-- aliases
theorem zO {p : Prop} [Decidable p] (h : decide p = true := by first | (with_reducible assumption) | assumption) : p := of_decide_eq_true h
abbrev za := @Aside0.mk
abbrev zb := @blk_alloc
abbrev zc := @blk_drewN
abbrev zd := @blk_drew
abbrev ze := @below_set
abbrev zf := @pw_below_drewN
abbrev zg := @below_drew1
abbrev zh := @below_alloc
abbrev zi := @blk_cell
abbrev zj := @Kd.R_alloc
abbrev zk := @Kd.R_drewN
abbrev zl := @Kd.R_drew
abbrev zm := @blk_frozen
abbrev zn := @World.block_lt_of_cell?
abbrev zo := @Kd.R_far
abbrev zp := @blk_below
abbrev zq := @below_size
abbrev zr := @blk_far
abbrev zs := @Kd.R_mono
abbrev zt := @Kd.R_types
abbrev zu := @below_step
abbrev zv := @Kd.R_below
abbrev zw := @blk_put
abbrev zx := @Kd.N_alloc
abbrev zy := @Kd.N_drewN
abbrev zz := @blk_lt
abbrev zaa := @Kd.N_drew
abbrev zab := @Kd.C_alloc
abbrev zac := @Kd.C_drewN
abbrev zad := @Kd.C_drew
abbrev zae := @Kd.R_reads'
abbrev zaf := @Kd.R_lt
abbrev zag := @Kd.N_mono
abbrev zah := @Kd.C_kept_now
abbrev zai := @Kd.C_below
abbrev zaj := @Kd.R_base
abbrev zak := @Kd.N_far
abbrev zal := @Kd.R_elder'
abbrev zam := @Kd.R_lower
abbrev zan := @Kd.R_slice
abbrev zao := @Kd.R_apart'
abbrev zap := @Kd.R_new'
abbrev zaq := @Kd.N_typed
abbrev zar := @Kd.N_reads'
abbrev zas := @blk_grown
abbrev zat := @Kd.R_over'
abbrev zau := @Kd.R_typed
abbrev zav := @KeepBut.set_
abbrev zaw := @Kd.N_elder'
abbrev zax := @Kd.N_below
abbrev zay := @Kd.N_ne
abbrev zaz := @Kd.N_elderB
abbrev zba := @Kd.R_nil
abbrev zbb := @Kd.R_newM
abbrev zbc := @Kd.at_int
abbrev zbd := @KeepBut.trans
abbrev zbe := @Kd.S_alloc
abbrev zbf := @Kd.S_drewN
abbrev zbg := @Kd.R_ne
abbrev zbh := @Kd.N_nil
abbrev zbi := @Kd.V_nil
abbrev zbj := @Kd.Q_nil
abbrev zbk := @Kd.S_nil
abbrev zbl := @Kd.S_drew
abbrev zbm := @Kd.C_kept_came
abbrev zbn := @blk_kept
abbrev zbo := @Kd.N_afterv
abbrev zbp := @Kd.R_lit
abbrev zbq := @Kd.N_append_rows
abbrev zbr := @Kd.R_keep
abbrev zbs := @Kd.S_mono
abbrev zbt := @Kd.at_string
abbrev zbu := @Kd.N_lower
abbrev zbv := @Kd.N_slice
abbrev zbw := @Kd.C_kept_call
abbrev zbx := @Kd.N_append
abbrev zby := @Kd.C_kept_own
abbrev zbz := @Kd.C_of_reads
abbrev zca := @Kd.reads_of_C
abbrev zcb := @Kd.R_lit_step
abbrev zcc := @Kd.R_keptB
abbrev zcd := @KeepBut.refl
theorem zG82 {p : Prop} (h : p := by (with_reducible repeat (first | refine zc ?_ _ | refine zd ?_ | refine zb ?_ _)); refine zr ?_ NB400_415.out _; (with_reducible repeat (first | refine zc ?_ _ | refine zd ?_ | refine zb ?_ _)); refine zr ?_ NB400_415.out _; (with_reducible repeat (first | refine zc ?_ _ | refine zd ?_ | refine zb ?_ _)); refine zr ?_ NB400_415.out _; (with_reducible repeat (first | refine zc ?_ _ | refine zd ?_ | refine zb ?_ _)); exact BK400.out) : p := h
theorem zG83 {p : Prop} (h : p := by (with_reducible repeat (first | refine zc ?_ _ | refine zd ?_ | refine zb ?_ _)); refine zr ?_ NB407_415.out _; (with_reducible repeat (first | refine zc ?_ _ | refine zd ?_ | refine zb ?_ _)); refine zr ?_ NB407_415.out _; (with_reducible repeat (first | refine zc ?_ _ | refine zd ?_ | refine zb ?_ _)); refine zr ?_ NB407_415.out _; (with_reducible repeat (first | refine zc ?_ _ | refine zd ?_ | refine zb ?_ _)); exact BK407.out) : p := h
theorem zG84 {p : Prop} (h : p := by (with_reducible repeat (first | apply zx | apply zy | apply zaa)); exact (zag (zak (p := ⟨gb407, 2, none⟩) (zak (p := ⟨gb407, 1, none⟩) (zak (p := ⟨gb407, 0, none⟩) (zag HO389.out (fun k_ hk => (⟨hk, hk.2⟩ : _ ∧ k_ ≠ gb407))) (fun _ hk => hk.2) (.slice Ao17 t401.length co17)) (fun _ hk => hk.2) (.int .i64 t404)) (fun _ hk => hk.2) (.int .i64 t405)) (fun _ h_ => h_.1))) : p := h
theorem zG85 {p : Prop} (h : p := by (with_reducible repeat (first | apply zj | apply zk | apply zl)); exact (zs (zo (p := ⟨gb407, 2, none⟩) (zo (p := ⟨gb407, 1, none⟩) (zo (p := ⟨gb407, 0, none⟩) (zt HO391.out BK407.out (by decide)) (fun _ hk => hk.2) (.slice Ao17 t401.length co17)) (fun _ hk => hk.2) (.int .i64 t404)) (fun _ hk => hk.2) (.int .i64 t405)) (fun _ h_ => h_.1))) : p := h
theorem zG86 {p : Prop} (h : p := by first | exact HK.out.1 | exact (show Kept w _ (fun k_ => ((P4_0_ k_) ∨ k_ = gi3) ∨ k_ = gi4) from by repeat (first | (with_reducible first | exact HK.out | apply Kept.alloc | apply Kept.drewN | apply Kept.drew | refine Kept.setCell ?_ (.inl (Or.inl (Or.inr rfl))) _ | refine Kept.setCell ?_ (.inl (Or.inr rfl)) _) | exact HK.out)).1) : p := h
theorem zG87 {p : Prop} (h : p := by first | exact HK.out.1 | exact (show Kept w _ (fun k_ => (P0_2_ k_) ∨ k_ = gi0) from by repeat (first | (with_reducible first | exact HK.out | apply Kept.alloc | apply Kept.drewN | apply Kept.drew | refine Kept.setCell ?_ (.inl (Or.inr rfl)) _) | exact HK.out)).1) : p := h
theorem zG88 {p : Prop} (h : p := by repeat (first | (with_reducible first | exact HK.out | apply Kept.alloc | apply Kept.drewN | apply Kept.drew | refine Kept.setCell ?_ (.inl (Or.inl (Or.inr rfl))) _ | refine Kept.setCell ?_ (.inl (Or.inr rfl)) _) | exact HK.out)) : p := h
theorem zG89 {p : Prop} (h : p := by repeat (first | (with_reducible first | exact HB.out | apply zh | apply zf | apply zg | refine ze ?_ GE1.out | refine ze ?_ GE2.out | refine ze ?_ GE3.out | refine ze ?_ GE4.out | refine ze ?_ GE5.out) | exact HB.out)) : p := h
theorem zG90 {p : Prop} (h : p := by repeat (first | (with_reducible first | exact HK.out | apply Kept.alloc | apply Kept.drewN | apply Kept.drew | refine Kept.setCell ?_ (.inl (Or.inr rfl)) _ | refine Kept.setCell ?_ (.inr GW354.out) _) | exact HK.out)) : p := h
theorem zG91 {p : Prop} (h : p := by repeat (first | (with_reducible first | exact HB.out | apply zh | apply zf | apply zg | refine ze ?_ GE272.out | refine ze ?_ GE273.out | refine ze ?_ GE274.out) | exact HB.out)) : p := h
theorem zG92 {p : Prop} (h : p := by repeat (first | (with_reducible first | exact HB.out | apply zh | apply zf | apply zg | refine ze ?_ GE400.out | refine ze ?_ GE407.out | refine ze ?_ GE415.out) | exact HB.out)) : p := h
theorem zG93 {p : Prop} (h : p := by repeat (first | (with_reducible first | exact HK.out | apply Kept.alloc | apply Kept.drewN | apply Kept.drew | refine Kept.setCell ?_ (.inl (Or.inr rfl)) _) | exact HK.out)) : p := h
theorem zG94 {p : Prop} (h : p := by repeat (first | (with_reducible first | exact HB.out | apply zh | apply zf | apply zg | refine ze ?_ GE326.out | refine ze ?_ GE328.out) | exact HB.out)) : p := h
theorem zG95 {p : Prop} (h : p := by repeat (first | (with_reducible first | exact HB.out | apply zh | apply zf | apply zg | refine ze ?_ GE400.out | refine ze ?_ GE407.out) | exact HB.out)) : p := h
theorem zG96 {p : Prop} (h : p := by repeat (first | (with_reducible first | exact HB.out | apply zh | apply zf | apply zg | refine ze ?_ GE0.out | refine ze ?_ GE354.out) | exact HB.out)) : p := h
theorem zG97 {p : Prop} (h : p := by (try simp only [List.map_toArray, List.map_cons, List.map_nil]); first | done | rfl | (simp only [List.length_drop, List.length_take]; rfl)) : p := h
theorem zG98 {p : Prop} (h : p := by repeat (first | (with_reducible first | exact HB.out | apply zh | apply zf | apply zg | refine ze ?_ (IsS168.ge HI144.out)) | exact HB.out)) : p := h
theorem zG99 {p : Prop} (h : p := by repeat (first | (with_reducible first | exact HK.out | apply zav | apply keep_drewN | apply keep_drew | apply keep_alloc) | exact HK.out)) : p := h
theorem zG100 {p : Prop} (h : p := by repeat (first | (with_reducible first | exact HB.out | apply zh | apply zf | apply zg | refine ze ?_ GE294.out) | exact HB.out)) : p := h
theorem zG101 {p : Prop} (h : p := by repeat (first | (with_reducible first | exact HB.out | apply zh | apply zf | apply zg | refine ze ?_ GE0.out) | exact HB.out)) : p := h
theorem zG102 {p : Prop} (h : p := by repeat (first | (with_reducible first | exact HB.out | apply zh | apply zf | apply zg) | exact HB.out)) : p := h
theorem zG103 {p : Prop} (h : p := by (with_reducible repeat (first | refine zc ?_ _ | refine zd ?_ | refine zb ?_ _)); exact BK354.out) : p := h
theorem zG104 {p : Prop} (h : p := by (with_reducible repeat (first | refine zc ?_ _ | refine zd ?_ | refine zb ?_ _)); exact BK272.out) : p := h
theorem zG105 {p : Prop} (h : p := by (with_reducible repeat (first | refine zc ?_ _ | refine zd ?_ | refine zb ?_ _)); exact BK273.out) : p := h
theorem zG106 {p : Prop} (h : p := by (with_reducible repeat (first | refine zc ?_ _ | refine zd ?_ | refine zb ?_ _)); exact BK274.out) : p := h
theorem zG107 {p : Prop} (h : p := by (with_reducible repeat (first | refine zc ?_ _ | refine zd ?_ | refine zb ?_ _)); exact BK326.out) : p := h
theorem zG108 {p : Prop} (h : p := by (with_reducible repeat (first | refine zc ?_ _ | refine zd ?_ | refine zb ?_ _)); exact BK373.out) : p := h
theorem zG109 {p : Prop} (h : p := by (with_reducible repeat (first | refine zc ?_ _ | refine zd ?_ | refine zb ?_ _)); exact BK400.out) : p := h
theorem zG110 {p : Prop} (h : p := by (with_reducible repeat (first | refine zc ?_ _ | refine zd ?_ | refine zb ?_ _)); exact BK407.out) : p := h
theorem zG111 {p : Prop} (h : p := by (with_reducible repeat (first | refine zc ?_ _ | refine zd ?_ | refine zb ?_ _)); exact BK415.out) : p := h
theorem zG112 {p : Prop} (h : p := by (with_reducible repeat (first | refine zc ?_ _ | refine zd ?_ | refine zb ?_ _)); exact BK0.out) : p := h
theorem zG113 {p : Prop} (h : p := by simp only [putAll, Act.put, List.setIfInBounds_toArray, List.set_cons_zero, List.set_cons_succ]) : p := h
theorem zG114 {p : Prop} (h : p := by (with_reducible repeat (first | refine zc ?_ _ | refine zd ?_ | refine zb ?_ _)); exact BK1.out) : p := h
theorem zG115 {p : Prop} (h : p := by (with_reducible repeat (first | refine zc ?_ _ | refine zd ?_ | refine zb ?_ _)); exact BK2.out) : p := h
theorem zG116 {p : Prop} (h : p := by (with_reducible repeat (first | refine zc ?_ _ | refine zd ?_ | refine zb ?_ _)); exact BK3.out) : p := h
theorem zG117 {p : Prop} (h : p := by (with_reducible repeat (first | refine zc ?_ _ | refine zd ?_ | refine zb ?_ _)); exact BK4.out) : p := h
theorem zG118 {p : Prop} (h : p := by (with_reducible repeat (first | refine zc ?_ _ | refine zd ?_ | refine zb ?_ _)); exact BK5.out) : p := h
theorem zG119 {p : Prop} (h : p := by (with_reducible repeat (first | apply zj | apply zk | apply zl)); exact HO_401000.out) : p := h
theorem zG120 {p : Prop} (h : p := by (with_reducible repeat (first | apply zj | apply zk | apply zl)); exact HO_408000.out) : p := h
theorem zG121 {p : Prop} (h : p := by (with_reducible repeat (first | apply zx | apply zy | apply zaa)); exact HO418.out) : p := h
theorem zG122 {p : Prop} (h : p := by (with_reducible repeat (first | apply zx | apply zy | apply zaa)); exact HO421.out) : p := h
theorem zG123 {p : Prop} (h : p := by (with_reducible repeat (first | apply zj | apply zk | apply zl)); exact HO0_2.out) : p := h
theorem zG124 {p : Prop} (h : p := by (with_reducible repeat (first | apply zx | apply zy | apply zaa)); exact HO_3.out) : p := h
theorem zG125 {p : Prop} (h : p := by (with_reducible repeat (first | apply zj | apply zk | apply zl)); exact HO411.out) : p := h
theorem zG126 {p : Prop} (h : p := by (with_reducible repeat (first | apply zj | apply zk | apply zl)); exact HO_4.out) : p := h
theorem zG127 {p : Prop} (h : p := by first | rfl | (simp; done) | (simp [*]; done)) : p := h
theorem zG128 {p : Prop} (h : p := by kernel_rfl) : p := h
theorem zG129 {p : Prop} (h : p := by decide) : p := h
-- pressed
abbrev zA_ := @And.intro
-- pressed twice
theorem zAi {a b c : Prop} (h : a → b → c) : a ∧ b → c := fun x => h x.1 x.2
theorem zP {P : Program} {ops : Array Oper} {Q : Exit → Act → World → Prop} {md : Region.Mode} {S : World → Prop} {ds : List Nat} {T : Bool × List (List Nat × List Nat)} {oi : Oper} {v : Value} {fuel : Nat} {l : Array Bool} {a a' : Act} {w : World} (i : Nat) (N : Tmp) (l' : Array Bool) (hT : Aside0 (rtab md ops = T)) (h : wpAnyLast P md ops Q S ds fuel l' a' w) (hi : ops[i]? = some oi := by rfl) (hN : oi.dst = some N := by rfl) (hc : anyT T l.toList l'.toList i = true := by kernel_rfl) (hQ : ∀ c a w, Q (.panic c) (a.put oi.dst v) w → Q (.panic c) a w := by exact fun _ _ _ h => h) (hw : Region.wanted oi (yielded ops a.tmps) = true := by rfl) (hy : ∀ w, (execOp a.eval oi).run P w = .ok (.value v) w := by intro w'; go_simp; with_reducible rfl) (ha : a.put (some N) v = a' := by simp only [Act.put, List.setIfInBounds_toArray, List.set_cons_zero, List.set_cons_succ, i64_w, i32_w]; rfl) : wpAnyLast P md ops Q S ds (fuel + 1) l a w := pure_ l' hi hN (any_of hT.out hc) hQ (Or.inl ⟨hw, hy⟩) ha h
theorem zQ {P : Program} {ops : Array Oper} {Q : Exit → Act → World → Prop} {md : Region.Mode} {S : World → Prop} {ds : List Nat} {T : Bool × List (List Nat × List Nat)} {oi : Oper} {v : Value} {fuel : Nat} {l : Array Bool} {a a' : Act} {w : World} {B : List Nat} (i : Nat) (N : Tmp) (l' : Array Bool) (hT : Aside0 (rtab md ops = T)) (hW : Aside0 (waitsOk T.2 B = true)) (hS : S w) (h : wpAnyLast P md ops Q S ds fuel l' a' w) (hi : ops[i]? = some oi := by rfl) (hN : oi.dst = some N := by rfl) (hc : takeW T B ds l.toList l'.toList i = true := by kernel_rfl) (hQ : ∀ c a w, Q (.panic c) (a.put oi.dst v) w → Q (.panic c) a w := by exact fun _ _ _ h => h) (hw : Region.wanted oi (yielded ops a.tmps) = true := by rfl) (hy : ∀ w, S w → (execOp a.eval oi).run P w = .ok (.value v) w := by intro w'; (repeat (refine zAi ?_; intro _)); intro _; go_simp; with_reducible rfl) (ha : a.put (some N) v = a' := by simp only [Act.put, List.setIfInBounds_toArray, List.set_cons_zero, List.set_cons_succ, i64_w, i32_w]; rfl) : wpAnyLast P md ops Q S ds (fuel + 1) l a w := take_ l' hi hN (take_ofW hT.out hW.out hc) hQ (Or.inl ⟨hw, hy⟩) hS ha h
theorem zU {P : Program} {ops : Array Oper} {Q : Exit → Act → World → Prop} {md : Region.Mode} {S : World → Prop} {ds : List Nat} {T : Bool × List (List Nat × List Nat)} {oi : Oper} {fuel : Nat} {l : Array Bool} {a a' : Act} {w : World} (i : Nat) (N : Tmp) (l' : Array Bool) (hT : Aside0 (rtab md ops = T)) (h : wpAnyLast P md ops Q S ds fuel l' a' w) (hi : ops[i]? = some oi := by rfl) (hN : oi.dst = some N := by rfl) (hc : anyT T l.toList l'.toList i = true := by kernel_rfl) (hQ : ∀ c a w, Q (.panic c) (a.put oi.dst undef) w → Q (.panic c) a w := by exact fun _ _ _ h => h) (hw : Region.wanted oi (yielded ops a.tmps) = false := by rfl) (ha : a.put (some N) undef = a' := by simp only [Act.put, List.setIfInBounds_toArray, List.set_cons_zero, List.set_cons_succ, i64_w, i32_w]; rfl) : wpAnyLast P md ops Q S ds (fuel + 1) l a w := pure_ l' hi hN (any_of hT.out hc) hQ (Or.inr ⟨hw, rfl⟩) ha h
def zM (n m : Nat) : Array Bool := ⟨(List.range n).map (fun i => Nat.testBit m i)⟩
theorem zB1 {w : World} {g : Nat} {t : TypeId} {v0 : Value} (h : w.heap[g]? = some (.cells #[v0] t (0, 0))) : w.cell? ⟨g, 0, none⟩ = some v0 ∧ w.frozen? ⟨g, 0, none⟩ = false := ⟨(blk_cell h 0).trans rfl, blk_frozen h 0⟩
theorem zB2 {w : World} {g : Nat} {t : TypeId} {v0 v1 : Value} (h : w.heap[g]? = some (.cells #[v0, v1] t (0, 0))) : w.cell? ⟨g, 0, none⟩ = some v0 ∧ w.cell? ⟨g, 1, none⟩ = some v1 ∧ w.frozen? ⟨g, 0, none⟩ = false ∧ w.frozen? ⟨g, 1, none⟩ = false := ⟨(blk_cell h 0).trans rfl, (blk_cell h 1).trans rfl, blk_frozen h 0, blk_frozen h 1⟩
theorem zB3 {w : World} {g : Nat} {t : TypeId} {v0 v1 v2 : Value} (h : w.heap[g]? = some (.cells #[v0, v1, v2] t (0, 0))) : w.cell? ⟨g, 0, none⟩ = some v0 ∧ w.cell? ⟨g, 1, none⟩ = some v1 ∧ w.cell? ⟨g, 2, none⟩ = some v2 ∧ w.frozen? ⟨g, 0, none⟩ = false ∧ w.frozen? ⟨g, 1, none⟩ = false ∧ w.frozen? ⟨g, 2, none⟩ = false := ⟨(blk_cell h 0).trans rfl, (blk_cell h 1).trans rfl, (blk_cell h 2).trans rfl, blk_frozen h 0, blk_frozen h 1, blk_frozen h 2⟩
theorem zB6 {w : World} {g : Nat} {t : TypeId} {v0 v1 v2 v3 v4 v5 : Value} (h : w.heap[g]? = some (.cells #[v0, v1, v2, v3, v4, v5] t (0, 0))) : w.cell? ⟨g, 0, none⟩ = some v0 ∧ w.cell? ⟨g, 1, none⟩ = some v1 ∧ w.cell? ⟨g, 2, none⟩ = some v2 ∧ w.cell? ⟨g, 3, none⟩ = some v3 ∧ w.cell? ⟨g, 4, none⟩ = some v4 ∧ w.cell? ⟨g, 5, none⟩ = some v5 ∧ w.frozen? ⟨g, 0, none⟩ = false ∧ w.frozen? ⟨g, 1, none⟩ = false ∧ w.frozen? ⟨g, 2, none⟩ = false ∧ w.frozen? ⟨g, 3, none⟩ = false ∧ w.frozen? ⟨g, 4, none⟩ = false ∧ w.frozen? ⟨g, 5, none⟩ = false := ⟨(blk_cell h 0).trans rfl, (blk_cell h 1).trans rfl, (blk_cell h 2).trans rfl, (blk_cell h 3).trans rfl, (blk_cell h 4).trans rfl, (blk_cell h 5).trans rfl, blk_frozen h 0, blk_frozen h 1, blk_frozen h 2, blk_frozen h 3, blk_frozen h 4, blk_frozen h 5⟩
theorem zN1 (p : Nat) {b s : Nat} (hg : b = s) (h : p ≤ s) : Aside0 (p ≤ b) := ⟨hg ▸ h⟩
theorem zN2 {a b s : Nat} (hg : b = s) (h : a < s) : Aside0 (a ≠ b) ∧ Aside0 (b ≠ a) := ⟨⟨by subst hg; exact Nat.ne_of_lt h⟩, ⟨by subst hg; exact Nat.ne_of_gt h⟩⟩
theorem zN3 {a b s : Nat} {c : Prop} (hg : b = s) (h : a < s) (r : c) : Aside0 (a ≠ b) ∧ Aside0 (b ≠ a) ∧ c := ⟨(zN2 hg h).1, (zN2 hg h).2, r⟩
theorem zD2 {p0 p1 : Prop} (h0 : p0) (h1 : p1) : Aside0 p0 ∧ Aside0 p1 := ⟨⟨h0⟩, ⟨h1⟩⟩
theorem zD3 {p0 p1 p2 : Prop} (h0 : p0) (h1 : p1) (h2 : p2) : Aside0 p0 ∧ Aside0 p1 ∧ Aside0 p2 := ⟨⟨h0⟩, ⟨h1⟩, ⟨h2⟩⟩
theorem zD4 {p0 p1 p2 p3 : Prop} (h0 : p0) (h1 : p1) (h2 : p2) (h3 : p3) : Aside0 p0 ∧ Aside0 p1 ∧ Aside0 p2 ∧ Aside0 p3 := ⟨⟨h0⟩, ⟨h1⟩, ⟨h2⟩, ⟨h3⟩⟩
theorem zD5 {p0 p1 p2 p3 p4 : Prop} (h0 : p0) (h1 : p1) (h2 : p2) (h3 : p3) (h4 : p4) : Aside0 p0 ∧ Aside0 p1 ∧ Aside0 p2 ∧ Aside0 p3 ∧ Aside0 p4 := ⟨⟨h0⟩, ⟨h1⟩, ⟨h2⟩, ⟨h3⟩, ⟨h4⟩⟩
theorem zD6 {p0 p1 p2 p3 p4 p5 : Prop} (h0 : p0) (h1 : p1) (h2 : p2) (h3 : p3) (h4 : p4) (h5 : p5) : Aside0 p0 ∧ Aside0 p1 ∧ Aside0 p2 ∧ Aside0 p3 ∧ Aside0 p4 ∧ Aside0 p5 := ⟨⟨h0⟩, ⟨h1⟩, ⟨h2⟩, ⟨h3⟩, ⟨h4⟩, ⟨h5⟩⟩
theorem zD7 {p0 p1 p2 p3 p4 p5 p6 : Prop} (h0 : p0) (h1 : p1) (h2 : p2) (h3 : p3) (h4 : p4) (h5 : p5) (h6 : p6) : Aside0 p0 ∧ Aside0 p1 ∧ Aside0 p2 ∧ Aside0 p3 ∧ Aside0 p4 ∧ Aside0 p5 ∧ Aside0 p6 := ⟨⟨h0⟩, ⟨h1⟩, ⟨h2⟩, ⟨h3⟩, ⟨h4⟩, ⟨h5⟩, ⟨h6⟩⟩
theorem zD8 {p0 p1 p2 p3 p4 p5 p6 p7 : Prop} (h0 : p0) (h1 : p1) (h2 : p2) (h3 : p3) (h4 : p4) (h5 : p5) (h6 : p6) (h7 : p7) : Aside0 p0 ∧ Aside0 p1 ∧ Aside0 p2 ∧ Aside0 p3 ∧ Aside0 p4 ∧ Aside0 p5 ∧ Aside0 p6 ∧ Aside0 p7 := ⟨⟨h0⟩, ⟨h1⟩, ⟨h2⟩, ⟨h3⟩, ⟨h4⟩, ⟨h5⟩, ⟨h6⟩, ⟨h7⟩⟩
theorem zD9 {p0 p1 p2 p3 p4 p5 p6 p7 p8 : Prop} (h0 : p0) (h1 : p1) (h2 : p2) (h3 : p3) (h4 : p4) (h5 : p5) (h6 : p6) (h7 : p7) (h8 : p8) : Aside0 p0 ∧ Aside0 p1 ∧ Aside0 p2 ∧ Aside0 p3 ∧ Aside0 p4 ∧ Aside0 p5 ∧ Aside0 p6 ∧ Aside0 p7 ∧ Aside0 p8 := ⟨⟨h0⟩, ⟨h1⟩, ⟨h2⟩, ⟨h3⟩, ⟨h4⟩, ⟨h5⟩, ⟨h6⟩, ⟨h7⟩, ⟨h8⟩⟩
theorem zD10 {p0 p1 p2 p3 p4 p5 p6 p7 p8 p9 : Prop} (h0 : p0) (h1 : p1) (h2 : p2) (h3 : p3) (h4 : p4) (h5 : p5) (h6 : p6) (h7 : p7) (h8 : p8) (h9 : p9) : Aside0 p0 ∧ Aside0 p1 ∧ Aside0 p2 ∧ Aside0 p3 ∧ Aside0 p4 ∧ Aside0 p5 ∧ Aside0 p6 ∧ Aside0 p7 ∧ Aside0 p8 ∧ Aside0 p9 := ⟨⟨h0⟩, ⟨h1⟩, ⟨h2⟩, ⟨h3⟩, ⟨h4⟩, ⟨h5⟩, ⟨h6⟩, ⟨h7⟩, ⟨h8⟩, ⟨h9⟩⟩
theorem zD11 {p0 p1 p2 p3 p4 p5 p6 p7 p8 p9 p10 : Prop} (h0 : p0) (h1 : p1) (h2 : p2) (h3 : p3) (h4 : p4) (h5 : p5) (h6 : p6) (h7 : p7) (h8 : p8) (h9 : p9) (h10 : p10) : Aside0 p0 ∧ Aside0 p1 ∧ Aside0 p2 ∧ Aside0 p3 ∧ Aside0 p4 ∧ Aside0 p5 ∧ Aside0 p6 ∧ Aside0 p7 ∧ Aside0 p8 ∧ Aside0 p9 ∧ Aside0 p10 := ⟨⟨h0⟩, ⟨h1⟩, ⟨h2⟩, ⟨h3⟩, ⟨h4⟩, ⟨h5⟩, ⟨h6⟩, ⟨h7⟩, ⟨h8⟩, ⟨h9⟩, ⟨h10⟩⟩
theorem zD12 {p0 p1 p2 p3 p4 p5 p6 p7 p8 p9 p10 p11 : Prop} (h0 : p0) (h1 : p1) (h2 : p2) (h3 : p3) (h4 : p4) (h5 : p5) (h6 : p6) (h7 : p7) (h8 : p8) (h9 : p9) (h10 : p10) (h11 : p11) : Aside0 p0 ∧ Aside0 p1 ∧ Aside0 p2 ∧ Aside0 p3 ∧ Aside0 p4 ∧ Aside0 p5 ∧ Aside0 p6 ∧ Aside0 p7 ∧ Aside0 p8 ∧ Aside0 p9 ∧ Aside0 p10 ∧ Aside0 p11 := ⟨⟨h0⟩, ⟨h1⟩, ⟨h2⟩, ⟨h3⟩, ⟨h4⟩, ⟨h5⟩, ⟨h6⟩, ⟨h7⟩, ⟨h8⟩, ⟨h9⟩, ⟨h10⟩, ⟨h11⟩⟩
theorem zD16 {p0 p1 p2 p3 p4 p5 p6 p7 p8 p9 p10 p11 p12 p13 p14 p15 : Prop} (h0 : p0) (h1 : p1) (h2 : p2) (h3 : p3) (h4 : p4) (h5 : p5) (h6 : p6) (h7 : p7) (h8 : p8) (h9 : p9) (h10 : p10) (h11 : p11) (h12 : p12) (h13 : p13) (h14 : p14) (h15 : p15) : Aside0 p0 ∧ Aside0 p1 ∧ Aside0 p2 ∧ Aside0 p3 ∧ Aside0 p4 ∧ Aside0 p5 ∧ Aside0 p6 ∧ Aside0 p7 ∧ Aside0 p8 ∧ Aside0 p9 ∧ Aside0 p10 ∧ Aside0 p11 ∧ Aside0 p12 ∧ Aside0 p13 ∧ Aside0 p14 ∧ Aside0 p15 := ⟨⟨h0⟩, ⟨h1⟩, ⟨h2⟩, ⟨h3⟩, ⟨h4⟩, ⟨h5⟩, ⟨h6⟩, ⟨h7⟩, ⟨h8⟩, ⟨h9⟩, ⟨h10⟩, ⟨h11⟩, ⟨h12⟩, ⟨h13⟩, ⟨h14⟩, ⟨h15⟩⟩
theorem zH0 {p : Prop} (h : p := by (with_reducible repeat (first | refine zc ?_ _ | refine zd ?_ | refine zb ?_ _)); refine zw (cs := #[.string ((rd_T58 l0 x5_2).f0), .int .i64 ((rd_T58 l0 x5_2).f1), .slice none 0 0]) ?_ 2 _ rfl; (with_reducible repeat (first | refine zc ?_ _ | refine zd ?_ | refine zb ?_ _)); refine zw (cs := #[.string ((rd_T58 l0 x5_2).f0), .int .i64 0, .slice none 0 0]) ?_ 1 _ rfl; (with_reducible repeat (first | refine zc ?_ _ | refine zd ?_ | refine zb ?_ _)); refine zw (cs := #[.string (⟨#[]⟩ : ByteArray), .int .i64 0, .slice none 0 0]) ?_ 0 _ rfl; (with_reducible repeat (first | refine zc ?_ _ | refine zd ?_ | refine zb ?_ _)); exact BK317.out) : p := h
theorem zH1 {p : Prop} (h : p := by exact ⟨_, by first | rfl | (simp [errW_none, errW_some] <;> rfl) | (simp [*, errW_none, errW_some] <;> rfl), by (with_reducible repeat (first | apply zj | apply zk | apply zl)); exact zs HO0_2.out (fun _ hk => hk.1), zG112, by repeat (first | (with_reducible first | exact HB.out | apply zh | apply zf | apply zg | refine ze ?_ GE0.out | refine ze ?_ GE354.out) | exact HB.out), by repeat (first | (with_reducible first | exact HK.out | apply Kept.alloc | apply Kept.drewN | apply Kept.drew | refine Kept.setCell ?_ (.inl (Or.inr rfl)) _ | refine Kept.setCell ?_ (.inr GW354.out) _) | exact HK.out)⟩) : p := h
theorem zH2 {p : Prop} (h : p := by exact ⟨by first | rfl | (simp [errW_none, errW_some] <;> rfl) | (simp [*, errW_none, errW_some] <;> rfl), by repeat (first | (with_reducible first | exact HI0.out | apply IsS168.alloc | apply IsS168.drewN | apply IsS168.drew | apply IsS168.set_1 | apply IsS168.set_2) | exact HI0.out), by repeat (first | (with_reducible first | exact HB.out | apply zh | apply zf | apply zg | refine ze ?_ (IsS168.ge HI0.out)) | exact HB.out), by repeat (first | (with_reducible first | exact HK.out | apply zav | apply keep_drewN | apply keep_drew | apply keep_alloc) | exact HK.out)⟩) : p := h
theorem zH3 {p : Prop} (h : p := by exact ⟨by first | rfl | (simp; done), by repeat (first | (with_reducible first | exact HI0.out | apply IsS168.alloc | apply IsS168.drewN | apply IsS168.drew | apply IsS168.set_1 | apply IsS168.set_2) | exact HI0.out), by repeat (first | (with_reducible first | exact HB.out | apply zh | apply zf | apply zg | refine ze ?_ HG0) | exact HB.out), by repeat (first | (with_reducible first | exact HK.out | apply keep_alloc | apply keep_drewN | apply keep_drew | apply zav) | exact HK.out)⟩) : p := h
theorem zH4 {p : Prop} (h : p := by exact zbm k124_heap HR1.out (by repeat (first | (with_reducible first | exact HB.out | apply zh | apply zf | apply zg | refine ze ?_ GE272.out | refine ze ?_ GE273.out | refine ze ?_ GE274.out | refine ze ?_ GE278.out | refine ze ?_ GE279.out | refine ze ?_ GE280.out) | exact HB.out)) (fun k_ hs_ => Or.elim hs_ (fun hs_ => Or.elim hs_ (fun hs_ => (fun e_ => by simp [Value.ownBlock] at e_) hs_) (fun e_ => (by rw [e_]; exact GW279.out))) (fun e_ => (by rw [e_]; exact GW278.out)))) : p := h
theorem zH5 {p : Prop} (h : p := by exact zbm k58_heap HR0.out (by repeat (first | (with_reducible first | exact HB.out | apply zh | apply zf | apply zg | refine ze ?_ GE272.out | refine ze ?_ GE273.out | refine ze ?_ GE274.out | refine ze ?_ GE278.out | refine ze ?_ GE279.out | refine ze ?_ GE280.out) | exact HB.out)) (fun k_ hs_ => Or.elim hs_ (fun hs_ => Or.elim hs_ (fun hs_ => (fun e_ => by simp [Value.ownBlock] at e_) hs_) (fun e_ => (by rw [e_]; exact GW279.out))) (fun e_ => (by rw [e_]; exact GW278.out)))) : p := h
theorem zH6 {p : Prop} (h : p := by (with_reducible repeat (first | refine zc ?_ _ | refine zd ?_ | refine zb ?_ _)); refine zr ?_ NB0_354.out _; (with_reducible repeat (first | refine zc ?_ _ | refine zd ?_ | refine zb ?_ _)); refine zr ?_ NB0_354.out _; (with_reducible repeat (first | refine zc ?_ _ | refine zd ?_ | refine zb ?_ _)); refine zr ?_ NB0_354.out _; (with_reducible repeat (first | refine zc ?_ _ | refine zd ?_ | refine zb ?_ _)); exact BK0.out) : p := h
theorem zH7 {p : Prop} (h : p := by exact ⟨_, by first | rfl | (simp [errW_none, errW_some] <;> rfl) | (simp [*, errW_none, errW_some] <;> rfl), by first | exact zba _ _ _ _ _ | exact zbh _ _ _ _ _ | exact zbi _ _ _ _ _ | exact zbj _ _ _ _ _ | exact zbk _ _ _ _ _, by repeat (first | (with_reducible first | exact HB.out | apply zh | apply zf | apply zg | refine ze ?_ GE272.out | refine ze ?_ GE273.out | refine ze ?_ GE274.out) | exact HB.out)⟩) : p := h
theorem zH8 {p : Prop} (h : p := by exact ⟨_, by first | rfl | (simp [errW_none, errW_some] <;> rfl) | (simp [*, errW_none, errW_some] <;> rfl), by first | exact zba _ _ _ _ _ | exact zbh _ _ _ _ _ | exact zbi _ _ _ _ _ | exact zbj _ _ _ _ _ | exact zbk _ _ _ _ _, by repeat (first | (with_reducible first | exact HB.out | apply zh | apply zf | apply zg | refine ze ?_ GE326.out | refine ze ?_ GE328.out) | exact HB.out)⟩) : p := h
theorem zH9 {p : Prop} (h : p := by refine (zar (e := 58) (base := w.heap.size) (ok := fun k_ => (((((some k_ ≠ (.slice Ao9 t386.length co9 : Value).ownBlock ∧ some k_ ≠ (.slice Ao14 t387.length co14 : Value).ownBlock) ∧ some k_ ≠ (.slice Ao12 t394.length co12 : Value).ownBlock) ∧ k_ ≠ gb400) ∧ some k_ ≠ (.slice Ao17 t401.length co17 : Value).ownBlock) ∧ k_ ≠ gb407)) (n := t385.length) (c := co8) ?_).2.2; exact zG84) : p := h
theorem zH10 {p : Prop} (h : p := by exact ⟨_, by first | rfl | (simp [errW_none, errW_some] <;> rfl) | (simp [*, errW_none, errW_some] <;> rfl), by first | exact zba _ _ _ _ _ | exact zbh _ _ _ _ _ | exact zbi _ _ _ _ _ | exact zbj _ _ _ _ _ | exact zbk _ _ _ _ _, by repeat (first | (with_reducible first | exact HB.out | apply zh | apply zf | apply zg | refine ze ?_ GE373.out) | exact HB.out)⟩) : p := h
theorem zH11 {p : Prop} (h : p := by exact ⟨_, by first | rfl | (simp [errW_none, errW_some] <;> rfl) | (simp [*, errW_none, errW_some] <;> rfl), by first | exact zba _ _ _ _ _ | exact zbh _ _ _ _ _ | exact zbi _ _ _ _ _ | exact zbj _ _ _ _ _ | exact zbk _ _ _ _ _, by repeat (first | (with_reducible first | exact HB.out | apply zh | apply zf | apply zg | refine ze ?_ GE294.out) | exact HB.out)⟩) : p := h
theorem zH12 {p : Prop} (h : p := by exact ⟨_, by first | rfl | (simp [errW_none, errW_some] <;> rfl) | (simp [*, errW_none, errW_some] <;> rfl), by first | exact zba _ _ _ _ _ | exact zbh _ _ _ _ _ | exact zbi _ _ _ _ _ | exact zbj _ _ _ _ _ | exact zbk _ _ _ _ _, by repeat (first | (with_reducible first | exact HB.out | apply zh | apply zf | apply zg | refine ze ?_ GE326.out) | exact HB.out)⟩) : p := h
theorem zH13 {p : Prop} (h : p := by exact zbm k124_heap HR1.out (by repeat (first | (with_reducible first | exact HB.out | apply zh | apply zf | apply zg | refine ze ?_ GE373.out | refine ze ?_ GE375.out) | exact HB.out)) (fun k_ hs_ => Or.elim hs_ (fun hs_ => (fun e_ => by simp [Value.ownBlock] at e_) hs_) (fun e_ => (by rw [e_]; exact GW375.out)))) : p := h
theorem zH14 {p : Prop} (h : p := by exact zbm k58_heap HR0.out (by repeat (first | (with_reducible first | exact HB.out | apply zh | apply zf | apply zg | refine ze ?_ GE373.out | refine ze ?_ GE375.out) | exact HB.out)) (fun k_ hs_ => Or.elim hs_ (fun hs_ => (fun e_ => by simp [Value.ownBlock] at e_) hs_) (fun e_ => (by rw [e_]; exact GW375.out)))) : p := h
theorem zH15 {p : Prop} (h : p := by exact ⟨by first | rfl | (simp [errW_none, errW_some] <;> rfl) | (simp [*, errW_none, errW_some] <;> rfl), by repeat (first | (with_reducible first | exact HB.out | apply zh | apply zf | apply zg | refine ze ?_ GE400.out | refine ze ?_ GE407.out | refine ze ?_ GE415.out | refine ze ?_ GE431.out) | exact HB.out)⟩) : p := h
theorem zH16 {p : Prop} (h : p := by repeat (first | exact (by repeat (first | (with_reducible exact HR254_2.out) | (with_reducible refine zab ?_ _) | (with_reducible refine zac ?_ _) | (with_reducible refine zad ?_) | exact HR254_2.out)) | (with_reducible refine zab ?_ _) | (with_reducible refine zac ?_ _) | (with_reducible refine zad ?_))) : p := h
theorem zH17 {p : Prop} (h : p := by repeat (first | exact (by repeat (first | (with_reducible exact HR355_2.out) | (with_reducible refine zab ?_ _) | (with_reducible refine zac ?_ _) | (with_reducible refine zad ?_) | exact HR355_2.out)) | (with_reducible refine zab ?_ _) | (with_reducible refine zac ?_ _) | (with_reducible refine zad ?_))) : p := h
theorem zH18 {p : Prop} (h : p := by repeat (first | (with_reducible first | exact HK.out | apply Kept.alloc | apply Kept.drewN | apply Kept.drew | refine Kept.setCell ?_ (.inl (Or.inl (Or.inr rfl))) _ | refine Kept.setCell ?_ (.inl (Or.inr rfl)) _ | refine Kept.setCell ?_ (.inr GW252.out) _) | exact HK.out)) : p := h
theorem zH19 {p : Prop} (h : p := by (with_reducible repeat (first | refine zc ?_ _ | refine zd ?_ | refine zb ?_ _)); refine zw (cs := #[u329000, .int .i64 x329001_3, .int .i64 x329002_3]) ?_ 0 _ rfl; (with_reducible repeat (first | refine zc ?_ _ | refine zd ?_ | refine zb ?_ _)); exact BK328.out) : p := h
theorem zH20 {p : Prop} (h : p := by exact ⟨by first | rfl | (simp [errW_none, errW_some] <;> rfl) | (simp [*, errW_none, errW_some] <;> rfl), by repeat (first | (with_reducible first | exact HB.out | apply zh | apply zf | apply zg | refine ze ?_ GE322.out | refine ze ?_ GE323.out) | exact HB.out)⟩) : p := h
theorem zH21 {p : Prop} (h : p := by exact ⟨by first | rfl | (simp [errW_none, errW_some] <;> rfl) | (simp [*, errW_none, errW_some] <;> rfl), by repeat (first | (with_reducible first | exact HB.out | apply zh | apply zf | apply zg | refine ze ?_ GE244.out | refine ze ?_ GE245.out) | exact HB.out)⟩) : p := h
theorem zH22 {p : Prop} (h : p := by exact ⟨by first | rfl | (simp [errW_none, errW_some] <;> rfl) | (simp [*, errW_none, errW_some] <;> rfl), by repeat (first | (with_reducible first | exact HB.out | apply zh | apply zf | apply zg | refine ze ?_ GE1.out | refine ze ?_ GE217.out) | exact HB.out)⟩) : p := h
theorem zH23 {p : Prop} (h : p := by exact ⟨by first | rfl | (simp [errW_none, errW_some] <;> rfl) | (simp [*, errW_none, errW_some] <;> rfl), by repeat (first | (with_reducible first | exact HB.out | apply zh | apply zf | apply zg | refine ze ?_ GE28.out | refine ze ?_ GE29.out) | exact HB.out)⟩) : p := h
theorem zH24 {p : Prop} (h : p := by repeat (first | (with_reducible first | exact HB.out | apply zh | apply zf | apply zg | refine ze ?_ GE272.out | refine ze ?_ GE273.out | refine ze ?_ GE274.out | refine ze ?_ GE278.out | refine ze ?_ GE279.out | refine ze ?_ GE280.out) | exact HB.out)) : p := h
theorem zH25 {p : Prop} (h : p := by repeat (first | (with_reducible first | exact HB.out | apply zh | apply zf | apply zg | refine ze ?_ GE272.out | refine ze ?_ GE273.out | refine ze ?_ GE274.out | refine ze ?_ GE278.out | refine ze ?_ GE279.out | refine ze ?_ GE280.out) | exact HB.out)) : p := h
theorem zH26 {p : Prop} (h : p := by repeat (first | (with_reducible first | exact HB.out | apply zh | apply zf | apply zg | refine ze ?_ GE1.out | refine ze ?_ GE2.out | refine ze ?_ GE3.out | refine ze ?_ GE4.out | refine ze ?_ GE5.out | refine ze ?_ GE252.out) | exact HB.out)) : p := h
theorem zH27 {p : Prop} (h : p := by exact ⟨by first | rfl | (simp [errW_none, errW_some] <;> rfl) | (simp [*, errW_none, errW_some] <;> rfl), by repeat (first | (with_reducible first | exact HB.out | apply zh | apply zf | apply zg | refine ze ?_ GE198.out) | exact HB.out)⟩) : p := h
theorem zH28 {p : Prop} (h : p := by exact ⟨by first | rfl | (simp [errW_none, errW_some] <;> rfl) | (simp [*, errW_none, errW_some] <;> rfl), by repeat (first | (with_reducible first | exact HB.out | apply zh | apply zf | apply zg | refine ze ?_ GE317.out) | exact HB.out)⟩) : p := h
theorem zH29 {p : Prop} (h : p := by exact ⟨by first | rfl | (simp [errW_none, errW_some] <;> rfl) | (simp [*, errW_none, errW_some] <;> rfl), by repeat (first | (with_reducible first | exact HB.out | apply zh | apply zf | apply zg | refine ze ?_ GE210.out) | exact HB.out)⟩) : p := h
theorem zH30 {p : Prop} (h : p := by exact ⟨by first | rfl | (simp [errW_none, errW_some] <;> rfl) | (simp [*, errW_none, errW_some] <;> rfl), by repeat (first | (with_reducible first | exact HB.out | apply zh | apply zf | apply zg | refine ze ?_ GE28.out) | exact HB.out)⟩) : p := h
theorem zH31 {p : Prop} (h : p := by repeat (first | (with_reducible first | exact HK.out | apply Kept.alloc | apply Kept.drewN | apply Kept.drew | refine Kept.setCell ?_ (.inl (Or.inl (Or.inr rfl))) _ | refine Kept.setCell ?_ (.inl (Or.inr rfl)) _) | exact HK.out)) : p := h
theorem zH32 {p : Prop} (h : p := by repeat (first | (with_reducible first | exact HB.out | apply zh | apply zf | apply zg | refine ze ?_ GE1.out | refine ze ?_ GE2.out | refine ze ?_ GE3.out | refine ze ?_ GE4.out | refine ze ?_ GE5.out) | exact HB.out)) : p := h
theorem zH33 {p : Prop} (h : p := by repeat (first | (with_reducible first | exact HK.out | apply Kept.alloc | apply Kept.drewN | apply Kept.drew | refine Kept.setCell ?_ (.inl (Or.inr rfl)) _ | refine Kept.setCell ?_ (.inr GW354.out) _) | exact HK.out)) : p := h
theorem zH34 {p : Prop} (h : p := by exact (by (with_reducible repeat (first | apply zx | apply zy | apply zaa)); exact zag HO418.out (fun _ hk => ⟨hk.2.1, ⟨hk.2.2.1, ⟨hk.2.2.2.1, ⟨hk.2.2.2.2.1, ⟨hk.2.2.2.2.2.1, ⟨hk.2.2.2.2.2.2.1, hk.2.2.2.2.2.2.2⟩⟩⟩⟩⟩⟩))) : p := h
theorem zH35 {p : Prop} (h : p := by (with_reducible repeat (first | refine zc ?_ _ | refine zd ?_ | refine zb ?_ _)); refine zr ?_ NB232_236.out _; (with_reducible repeat (first | refine zc ?_ _ | refine zd ?_ | refine zb ?_ _)); exact BK232.out) : p := h
theorem zH36 {p : Prop} (h : p := by (with_reducible repeat (first | refine zc ?_ _ | refine zd ?_ | refine zb ?_ _)); refine zr ?_ NB326_328.out _; (with_reducible repeat (first | refine zc ?_ _ | refine zd ?_ | refine zb ?_ _)); exact BK326.out) : p := h
theorem zH37 {p : Prop} (h : p := by exact ⟨by first | rfl | (simp [errW_none, errW_some] <;> rfl) | (simp [*, errW_none, errW_some] <;> rfl), by repeat (first | (with_reducible first | exact HB.out | apply zh | apply zf | apply zg) | exact HB.out)⟩) : p := h
theorem zH38 {p : Prop} (h : p := by exact (by (with_reducible repeat (first | apply zx | apply zy | apply zaa)); exact zag HO421.out (fun _ hk => ⟨hk.2.1, ⟨hk.2.2.1, ⟨hk.2.2.2.1, ⟨hk.2.2.2.2.1, ⟨hk.2.2.2.2.2.1, hk.2.2.2.2.2.2⟩⟩⟩⟩⟩))) : p := h
theorem zH39 {p : Prop} (h : p := by repeat (first | (with_reducible first | exact HI144.out | apply IsS168.alloc | apply IsS168.drewN | apply IsS168.drew | apply IsS168.set_1 | apply IsS168.set_2) | exact HI144.out)) : p := h
theorem zH40 {p : Prop} (h : p := by repeat (first | (with_reducible first | exact HB.out | apply zh | apply zf | apply zg | refine ze ?_ GE272.out | refine ze ?_ GE273.out | refine ze ?_ GE274.out) | exact HB.out)) : p := h
theorem zH41 {p : Prop} (h : p := by repeat (first | (with_reducible first | exact HI144.out | apply IsS168.alloc | apply IsS168.drewN | apply IsS168.drew | apply IsS168.set_1 | apply IsS168.set_2) | exact HI144.out)) : p := h
theorem zH42 {p : Prop} (h : p := by repeat (first | (with_reducible first | exact HI0.out | apply IsS168.alloc | apply IsS168.drewN | apply IsS168.drew | apply IsS168.set_1 | apply IsS168.set_2) | exact HI0.out)) : p := h
theorem zH43 {p : Prop} (h : p := by repeat (first | (with_reducible first | exact HK.out | apply Kept.alloc | apply Kept.drewN | apply Kept.drew | refine Kept.setCell ?_ (.inl (Or.inr rfl)) _) | exact HK.out)) : p := h
theorem zH44 {p : Prop} (h : p := by repeat (first | (with_reducible first | exact HI0.out | apply IsS168.alloc | apply IsS168.drewN | apply IsS168.drew | apply IsS168.set_1 | apply IsS168.set_2) | exact HI0.out)) : p := h
theorem zH45 {p : Prop} (h : p := by exact ⟨by first | rfl | (simp; done) | (simp only [← hji25] <;> (first | rfl | simp)) | (simp [*]; done), by repeat (first | exact Drawn0.refl _ | apply Drawn0.step)⟩) : p := h
theorem zH46 {p : Prop} (h : p := by exact (Reps.one (show Kd.M (Kd.int .u8) _ _ _ ((wrap64 (48 + (Int.tmod a0 10))) % 256) [.int .u8 ((wrap64 (48 + (Int.tmod a0 10))) % 256)] from rfl) (Reps.none _ _))) : p := h
theorem zH47 {p : Prop} (h : p := by exact (fun k_ hk => ⟨(.inr (Nat.le_trans zG87 hk)), Kd.fresh' (zaf (by (with_reducible repeat (first | apply zj | apply zk | apply zl)); exact HO_1002.out)) k_ hk⟩)) : p := h
theorem zH48 {p : Prop} (h : p := by (with_reducible repeat (first | apply zx | apply zy | apply zaa)); exact zag HO389.out (fun _ hk => ⟨hk.1.1.1.1.1, ⟨hk.1.1.1.2, ⟨hk.1.2, ⟨hk.1.1.2, hk.2⟩⟩⟩⟩)) : p := h
theorem zH49 {p : Prop} (h : p := by exact zby ((zt HO378.out BK375.out zG129)) (fun k_ hk_ hs_ => Or.elim hs_ (fun hs_ => (fun e_ => by simp [Value.ownBlock] at e_) hs_) (fun e_ => (hk_.2) e_))) : p := h
theorem zH50 {p : Prop} (h : p := by repeat (first | (with_reducible first | exact HB.out | apply zh | apply zf | apply zg | refine ze ?_ GE294.out | refine ze ?_ GE306.out) | exact HB.out)) : p := h
theorem zH51 {p : Prop} (h : p := by repeat (first | (with_reducible first | exact HB.out | apply zh | apply zf | apply zg | refine ze ?_ GE373.out | refine ze ?_ GE375.out) | exact HB.out)) : p := h
theorem zH52 {p : Prop} (h : p := by repeat (first | (with_reducible first | exact HB.out | apply zh | apply zf | apply zg | refine ze ?_ GE322.out | refine ze ?_ GE323.out) | exact HB.out)) : p := h
theorem zH53 {p : Prop} (h : p := by repeat (first | (with_reducible first | exact HB.out | apply zh | apply zf | apply zg | refine ze ?_ GE232.out | refine ze ?_ GE236.out) | exact HB.out)) : p := h
theorem zH54 {p : Prop} (h : p := by repeat (first | (with_reducible first | exact HB.out | apply zh | apply zf | apply zg | refine ze ?_ GE400.out | refine ze ?_ GE407.out) | exact HB.out)) : p := h
theorem zH55 {p : Prop} (h : p := by repeat (first | (with_reducible first | exact HB.out | apply zh | apply zf | apply zg | refine ze ?_ GE326.out | refine ze ?_ GE328.out) | exact HB.out)) : p := h
theorem zH56 {p : Prop} (h : p := by exact zai HR209_2.out (by repeat (first | (with_reducible first | exact HB.out | apply zh | apply zf | apply zg | refine ze ?_ GE210.out) | exact HB.out))) : p := h
theorem zH57 {p : Prop} (h : p := by exact zai HR316_2.out (by repeat (first | (with_reducible first | exact HB.out | apply zh | apply zf | apply zg | refine ze ?_ GE317.out) | exact HB.out))) : p := h
theorem zH58 {p : Prop} (h : p := by repeat (first | (with_reducible first | exact HB.out | apply zh | apply zf | apply zg | refine ze ?_ GE28.out | refine ze ?_ GE29.out) | exact HB.out)) : p := h
theorem zH59 {p : Prop} (h : p := by repeat (first | (with_reducible first | exact HB.out | apply zh | apply zf | apply zg | refine ze ?_ GE0.out | refine ze ?_ GE354.out) | exact HB.out)) : p := h
theorem zH60 {p : Prop} (h : p := by repeat (first | (with_reducible first | exact HB.out | apply zh | apply zf | apply zg | refine ze ?_ GE373.out | refine ze ?_ GE375.out) | exact HB.out)) : p := h
theorem zH61 {p : Prop} (h : p := by repeat (first | exact (zai HR238_2.out HB.out) | (with_reducible refine zab ?_ _) | (with_reducible refine zac ?_ _) | (with_reducible refine zad ?_))) : p := h
theorem zH62 {p : Prop} (h : p := by repeat (first | exact (zai HR335_2.out HB.out) | (with_reducible refine zab ?_ _) | (with_reducible refine zac ?_ _) | (with_reducible refine zad ?_))) : p := h
theorem zH63 {p : Prop} (h : p := by repeat (first | exact (zae HO_401000.out).2.2 | (with_reducible refine zab ?_ _) | (with_reducible refine zac ?_ _) | (with_reducible refine zad ?_))) : p := h
theorem zH64 {p : Prop} (h : p := by repeat (first | exact (zai HR241.out HB.out) | (with_reducible refine zab ?_ _) | (with_reducible refine zac ?_ _) | (with_reducible refine zad ?_))) : p := h
theorem zH65 {p : Prop} (h : p := by repeat (first | exact (zai HR2.out HB.out) | (with_reducible refine zab ?_ _) | (with_reducible refine zac ?_ _) | (with_reducible refine zad ?_))) : p := h
theorem zH66 {p : Prop} (h : p := by repeat (first | exact (zai HR1.out HB.out) | (with_reducible refine zab ?_ _) | (with_reducible refine zac ?_ _) | (with_reducible refine zad ?_))) : p := h
theorem zH67 {p : Prop} (h : p := by repeat (first | exact (zai HR0.out HB.out) | (with_reducible refine zab ?_ _) | (with_reducible refine zac ?_ _) | (with_reducible refine zad ?_))) : p := h
theorem zH68 {p : Prop} (h : p := by repeat (first | exact (zai HR1.out zG100) | (with_reducible refine zab ?_ _) | (with_reducible refine zac ?_ _) | (with_reducible refine zad ?_))) : p := h
theorem zH69 {p : Prop} (h : p := by repeat (first | exact (zar HO424.out).2.2 | (with_reducible refine zab ?_ _) | (with_reducible refine zac ?_ _) | (with_reducible refine zad ?_))) : p := h
theorem zH70 {p : Prop} (h : p := by repeat (first | exact (zar HO_3.out).2.2 | (with_reducible refine zab ?_ _) | (with_reducible refine zac ?_ _) | (with_reducible refine zad ?_))) : p := h
theorem zH71 {p : Prop} (h : p := by repeat (first | exact (zae HO_4.out).2.2 | (with_reducible refine zab ?_ _) | (with_reducible refine zac ?_ _) | (with_reducible refine zad ?_))) : p := h
theorem zH72 {p : Prop} (h : p := by repeat (first | (with_reducible first | exact HB.out | apply zh | apply zf | apply zg | refine ze ?_ (IsS168.ge HI144.out)) | exact HB.out)) : p := h
theorem zH73 {p : Prop} (h : p := by repeat (first | (with_reducible first | exact HB.out | apply zh | apply zf | apply zg | refine ze ?_ (IsS168.ge HI0.out)) | exact HB.out)) : p := h
theorem zH74 {p : Prop} (h : p := by repeat (first | (with_reducible first | exact HK.out | apply zav | apply keep_drewN | apply keep_drew | apply keep_alloc) | exact HK.out)) : p := h
theorem zH75 {p : Prop} (h : p := by repeat (first | (with_reducible first | exact HB.out | apply zh | apply zf | apply zg | refine ze ?_ (IsS168.ge HI144.out)) | exact HB.out)) : p := h
theorem zH76 {p : Prop} (h : p := by repeat (first | (with_reducible first | exact HB.out | apply zh | apply zf | apply zg | refine ze ?_ (IsS168.ge HI0.out)) | exact HB.out)) : p := h
theorem zH77 {p : Prop} (h : p := by repeat (first | exact HR191.out | (with_reducible refine zab ?_ _) | (with_reducible refine zac ?_ _) | (with_reducible refine zad ?_))) : p := h
theorem zH78 {p : Prop} (h : p := by repeat (first | exact HR0.out | (with_reducible refine zab ?_ _) | (with_reducible refine zac ?_ _) | (with_reducible refine zad ?_))) : p := h
theorem zH79 {p : Prop} (h : p := by repeat (first | (with_reducible first | exact HB.out | apply zh | apply zf | apply zg | refine ze ?_ GE198.out) | exact HB.out)) : p := h
theorem zH80 {p : Prop} (h : p := by repeat (first | (with_reducible first | exact HB.out | apply zh | apply zf | apply zg | refine ze ?_ GE210.out) | exact HB.out)) : p := h
theorem zH81 {p : Prop} (h : p := by repeat (first | (with_reducible first | exact HB.out | apply zh | apply zf | apply zg | refine ze ?_ GE373.out) | exact HB.out)) : p := h
theorem zH82 {p : Prop} (h : p := by repeat (first | (with_reducible first | exact HB.out | apply zh | apply zf | apply zg | refine ze ?_ GE326.out) | exact HB.out)) : p := h
theorem zH83 {p : Prop} (h : p := by repeat (first | (with_reducible first | exact HB.out | apply zh | apply zf | apply zg | refine ze ?_ GE294.out) | exact HB.out)) : p := h
theorem zH84 {p : Prop} (h : p := by repeat (first | (with_reducible first | exact HB.out | apply zh | apply zf | apply zg | refine ze ?_ GE317.out) | exact HB.out)) : p := h
theorem zH85 {p : Prop} (h : p := by repeat (first | (with_reducible first | exact HB.out | apply zh | apply zf | apply zg | refine ze ?_ GE28.out) | exact HB.out)) : p := h
theorem zH86 {p : Prop} (h : p := by repeat (first | (with_reducible first | exact HB.out | apply zh | apply zf | apply zg | refine ze ?_ GE0.out) | exact HB.out)) : p := h
theorem zH87 {p : Prop} (h : p := by first | exact zba _ _ _ _ _ | exact zbh _ _ _ _ _ | exact zbi _ _ _ _ _ | exact zbj _ _ _ _ _ | exact zbk _ _ _ _ _) : p := h
theorem zH88 {p : Prop} (h : p := by refine (zae (e := 124) (base := w.heap.size) (ok := fun k_ => True) (n := t386.length) (c := co9) ?_).2.2; exact zG85) : p := h
theorem zH89 {p : Prop} (h : p := by exact ⟨by first | rfl | (simp; done) | (simp [*]; done), by repeat (first | exact Drawn0.refl _ | apply Drawn0.step)⟩) : p := h
theorem zH90 {p : Prop} (h : p := by exact (by (with_reducible repeat (first | refine zc ?_ _ | refine zd ?_ | refine zb ?_ _)); exact BK278.out)) : p := h
theorem zH91 {p : Prop} (h : p := by exact (by (with_reducible repeat (first | refine zc ?_ _ | refine zd ?_ | refine zb ?_ _)); exact BK279.out)) : p := h
theorem zH92 {p : Prop} (h : p := by exact (by (with_reducible repeat (first | refine zc ?_ _ | refine zd ?_ | refine zb ?_ _)); exact BK280.out)) : p := h
theorem zH93 {p : Prop} (h : p := by exact (by (with_reducible repeat (first | refine zc ?_ _ | refine zd ?_ | refine zb ?_ _)); exact BK375.out)) : p := h
theorem zH94 {p : Prop} (h : p := by exact (by (with_reducible repeat (first | refine zc ?_ _ | refine zd ?_ | refine zb ?_ _)); exact BK29.out)) : p := h
theorem zH95 {p : Prop} (h : p := by exact (by (with_reducible repeat (first | refine zc ?_ _ | refine zd ?_ | refine zb ?_ _)); exact BK28.out)) : p := h
theorem zH96 {p : Prop} (h : p := by (with_reducible repeat (first | apply zj | apply zk | apply zl)); exact zs HO396.out (fun _ hk => hk.2)) : p := h
theorem zH97 {p : Prop} (h : p := by (with_reducible repeat (first | apply zj | apply zk | apply zl)); exact zs HO403.out (fun _ hk => hk.2)) : p := h
theorem zH98 {p : Prop} (h : p := by repeat (first | (with_reducible first | exact HB.out | apply zh | apply zf | apply zg) | exact HB.out)) : p := h
theorem zH99 {p : Prop} (h : p := by (with_reducible repeat (first | refine zc ?_ _ | refine zd ?_ | refine zb ?_ _)); exact BK328.out) : p := h
theorem zH100 {p : Prop} (h : p := by (with_reducible repeat (first | refine zc ?_ _ | refine zd ?_ | refine zb ?_ _)); exact BK294.out) : p := h
theorem zH101 {p : Prop} (h : p := by (with_reducible repeat (first | refine zc ?_ _ | refine zd ?_ | refine zb ?_ _)); exact BK326.out) : p := h
theorem zH102 {p : Prop} (h : p := by (with_reducible repeat (first | refine zc ?_ _ | refine zd ?_ | refine zb ?_ _)); exact BK400.out) : p := h
theorem zH103 {p : Prop} (h : p := by (with_reducible repeat (first | refine zc ?_ _ | refine zd ?_ | refine zb ?_ _)); exact BK407.out) : p := h
theorem zH104 {p : Prop} (h : p := by (with_reducible repeat (first | refine zc ?_ _ | refine zd ?_ | refine zb ?_ _)); exact BK28.out) : p := h
theorem zH105 {p : Prop} (h : p := by (with_reducible repeat (first | refine zc ?_ _ | refine zd ?_ | refine zb ?_ _)); exact BK0.out) : p := h
theorem zH106 {p : Prop} (h : p := by (with_reducible repeat (first | refine zc ?_ _ | refine zd ?_ | refine zb ?_ _)); exact BK1.out) : p := h
theorem zH107 {p : Prop} (h : p := by (with_reducible repeat (first | refine zc ?_ _ | refine zd ?_ | refine zb ?_ _)); exact BK2.out) : p := h
theorem zH108 {p : Prop} (h : p := by (with_reducible repeat (first | refine zc ?_ _ | refine zd ?_ | refine zb ?_ _)); exact BK3.out) : p := h
theorem zH109 {p : Prop} (h : p := by (with_reducible repeat (first | refine zc ?_ _ | refine zd ?_ | refine zb ?_ _)); exact BK4.out) : p := h
theorem zH110 {p : Prop} (h : p := by (with_reducible repeat (first | refine zc ?_ _ | refine zd ?_ | refine zb ?_ _)); exact BK5.out) : p := h
theorem zH111 {p : Prop} (h : p := by first | rfl | (simp [errW_none, errW_some] <;> rfl) | (simp [*, errW_none, errW_some] <;> rfl)) : p := h
theorem zH112 {p : Prop} (h : p := by (with_reducible repeat (first | apply zj | apply zk | apply zl)); exact HO391.out) : p := h
theorem zH113 {p : Prop} (h : p := by (with_reducible repeat (first | apply zj | apply zk | apply zl)); exact HO_9.out) : p := h
theorem zH114 {p : Prop} (h : p := by have := HJ2.out; have := HK2.out; first | omega | exact Nat.le_refl _) : p := h
theorem zH115 {p : Prop} (h : p := by repeat (first | exact Drawn0.refl _ | apply Drawn0.step)) : p := h
theorem zH116 {p : Prop} (h : p := by have := HJ5.out; first | omega | exact Nat.le_refl _) : p := h
theorem zH117 {p : Prop} (h : p := by have := HK1.out; first | omega | exact Nat.le_refl _) : p := h
theorem zH118 {p : Prop} (h : p := by have := HK1.out; have := HJ4.out; omega) : p := h
theorem zH119 {p : Prop} (h : p := by first | (go_simp; done) | (go_simp; rfl)) : p := h
theorem zH120 {p : Prop} (h : p := by first | omega | exact Nat.le_refl _) : p := h
theorem zH121 {p : Prop} (h : p := by exact (fun _ _ => trivial)) : p := h
theorem zH122 {p : Prop} (h : p := by exact (zae HO391.out).2.1) : p := h
theorem zH123 {p : Prop} (h : p := by exact (zar HO389.out).2.1) : p := h
theorem zH124 {p : Prop} (h : p := by have := HK1.out; omega) : p := h
theorem zH125 {p : Prop} (h : p := by exact (zae HO_4.out).2.1) : p := h
theorem zH126 {p : Prop} (h : p := by exact (Reps.none _ _)) : p := h
theorem zH127 {p : Prop} (h : p := by exact HC1.out) : p := h
theorem zH128 {p : Prop} (h : p := by exact HC0.out) : p := h
theorem zK129 {p : Prop} (h : p := by (with_reducible repeat (first | refine zc ?_ _ | refine zd ?_ | refine zb ?_ _)); refine zr ?_ NB278_279.out _; (with_reducible repeat (first | refine zc ?_ _ | refine zd ?_ | refine zb ?_ _)); refine zw (cs := #[.slice none 0 0, .int .i64 0, .int .i64 0]) ?_ 2 _ rfl; (with_reducible repeat (first | refine zc ?_ _ | refine zd ?_ | refine zb ?_ _)); refine zw (cs := #[.slice none 0 0, .int .i64 0, .int .i64 0]) ?_ 1 _ rfl; (with_reducible repeat (first | refine zc ?_ _ | refine zd ?_ | refine zb ?_ _)); refine zw (cs := #[.slice none 0 0, .int .i64 0, .int .i64 0]) ?_ 0 _ rfl; (with_reducible repeat (first | refine zc ?_ _ | refine zd ?_ | refine zb ?_ _)); exact BK278.out) : p := h
theorem zK130 {p : Prop} (h : p := by (with_reducible repeat (first | refine zc ?_ _ | refine zd ?_ | refine zb ?_ _)); refine zw (cs := #[.string ((rd_T58 l0 x19_2).f0), .int .i64 ((rd_T58 l0 x19_2).f1), .slice none 0 0]) ?_ 2 _ rfl; (with_reducible repeat (first | refine zc ?_ _ | refine zd ?_ | refine zb ?_ _)); refine zw (cs := #[.string ((rd_T58 l0 x19_2).f0), .int .i64 0, .slice none 0 0]) ?_ 1 _ rfl; (with_reducible repeat (first | refine zc ?_ _ | refine zd ?_ | refine zb ?_ _)); refine zw (cs := #[.string (⟨#[]⟩ : ByteArray), .int .i64 0, .slice none 0 0]) ?_ 0 _ rfl; (with_reducible repeat (first | refine zc ?_ _ | refine zd ?_ | refine zb ?_ _)); exact BK210.out) : p := h
theorem zK131 {p : Prop} (h : p := by (with_reducible repeat (first | refine zc ?_ _ | refine zd ?_ | refine zb ?_ _)); refine zw (cs := #[.slice Ao101 t409.length co101, .int .i64 t412, .int .i64 0]) ?_ 2 _ rfl; (with_reducible repeat (first | refine zc ?_ _ | refine zd ?_ | refine zb ?_ _)); refine zw (cs := #[.slice Ao101 t409.length co101, .int .i64 0, .int .i64 0]) ?_ 1 _ rfl; (with_reducible repeat (first | refine zc ?_ _ | refine zd ?_ | refine zb ?_ _)); refine zw (cs := #[.slice none 0 0, .int .i64 0, .int .i64 0]) ?_ 0 _ rfl; (with_reducible repeat (first | refine zc ?_ _ | refine zd ?_ | refine zb ?_ _)); exact BK415.out) : p := h
theorem zK132 {p : Prop} (h : p := by (with_reducible repeat (first | refine zc ?_ _ | refine zd ?_ | refine zb ?_ _)); refine zw (cs := #[.slice Ao123 t409.length co123, .int .i64 t412, .int .i64 0]) ?_ 2 _ rfl; (with_reducible repeat (first | refine zc ?_ _ | refine zd ?_ | refine zb ?_ _)); refine zw (cs := #[.slice Ao123 t409.length co123, .int .i64 0, .int .i64 0]) ?_ 1 _ rfl; (with_reducible repeat (first | refine zc ?_ _ | refine zd ?_ | refine zb ?_ _)); refine zw (cs := #[.slice none 0 0, .int .i64 0, .int .i64 0]) ?_ 0 _ rfl; (with_reducible repeat (first | refine zc ?_ _ | refine zd ?_ | refine zb ?_ _)); exact BK415.out) : p := h
theorem zK133 {p : Prop} (h : p := by (with_reducible repeat (first | refine zc ?_ _ | refine zd ?_ | refine zb ?_ _)); refine zw (cs := #[.slice Ao145 t409.length co145, .int .i64 t412, .int .i64 0]) ?_ 2 _ rfl; (with_reducible repeat (first | refine zc ?_ _ | refine zd ?_ | refine zb ?_ _)); refine zw (cs := #[.slice Ao145 t409.length co145, .int .i64 0, .int .i64 0]) ?_ 1 _ rfl; (with_reducible repeat (first | refine zc ?_ _ | refine zd ?_ | refine zb ?_ _)); refine zw (cs := #[.slice none 0 0, .int .i64 0, .int .i64 0]) ?_ 0 _ rfl; (with_reducible repeat (first | refine zc ?_ _ | refine zd ?_ | refine zb ?_ _)); exact BK415.out) : p := h
theorem zK134 {p : Prop} (h : p := by (with_reducible repeat (first | refine zc ?_ _ | refine zd ?_ | refine zb ?_ _)); refine zw (cs := #[.slice Ao17 t401.length co17, .int .i64 t404, .int .i64 0]) ?_ 2 _ rfl; (with_reducible repeat (first | refine zc ?_ _ | refine zd ?_ | refine zb ?_ _)); refine zw (cs := #[.slice Ao17 t401.length co17, .int .i64 0, .int .i64 0]) ?_ 1 _ rfl; (with_reducible repeat (first | refine zc ?_ _ | refine zd ?_ | refine zb ?_ _)); refine zw (cs := #[.slice none 0 0, .int .i64 0, .int .i64 0]) ?_ 0 _ rfl; (with_reducible repeat (first | refine zc ?_ _ | refine zd ?_ | refine zb ?_ _)); exact BK407.out) : p := h
theorem zK135 {p : Prop} (h : p := by (with_reducible repeat (first | refine zc ?_ _ | refine zd ?_ | refine zb ?_ _)); refine zw (cs := #[.slice Ao57 t409.length co57, .int .i64 t412, .int .i64 0]) ?_ 2 _ rfl; (with_reducible repeat (first | refine zc ?_ _ | refine zd ?_ | refine zb ?_ _)); refine zw (cs := #[.slice Ao57 t409.length co57, .int .i64 0, .int .i64 0]) ?_ 1 _ rfl; (with_reducible repeat (first | refine zc ?_ _ | refine zd ?_ | refine zb ?_ _)); refine zw (cs := #[.slice none 0 0, .int .i64 0, .int .i64 0]) ?_ 0 _ rfl; (with_reducible repeat (first | refine zc ?_ _ | refine zd ?_ | refine zb ?_ _)); exact BK415.out) : p := h
theorem zK136 {p : Prop} (h : p := by (with_reducible repeat (first | refine zc ?_ _ | refine zd ?_ | refine zb ?_ _)); refine zw (cs := #[.slice Ao79 t409.length co79, .int .i64 t412, .int .i64 0]) ?_ 2 _ rfl; (with_reducible repeat (first | refine zc ?_ _ | refine zd ?_ | refine zb ?_ _)); refine zw (cs := #[.slice Ao79 t409.length co79, .int .i64 0, .int .i64 0]) ?_ 1 _ rfl; (with_reducible repeat (first | refine zc ?_ _ | refine zd ?_ | refine zb ?_ _)); refine zw (cs := #[.slice none 0 0, .int .i64 0, .int .i64 0]) ?_ 0 _ rfl; (with_reducible repeat (first | refine zc ?_ _ | refine zd ?_ | refine zb ?_ _)); exact BK415.out) : p := h
theorem zK137 {p : Prop} (h : p := by (with_reducible repeat (first | refine zc ?_ _ | refine zd ?_ | refine zb ?_ _)); refine zw (cs := #[.slice none 0 0, .int .i64 0, .int .i64 0]) ?_ 2 _ rfl; (with_reducible repeat (first | refine zc ?_ _ | refine zd ?_ | refine zb ?_ _)); refine zw (cs := #[.slice none 0 0, .int .i64 0, .int .i64 0]) ?_ 1 _ rfl; (with_reducible repeat (first | refine zc ?_ _ | refine zd ?_ | refine zb ?_ _)); refine zw (cs := #[.slice none 0 0, .int .i64 0, .int .i64 0]) ?_ 0 _ rfl; (with_reducible repeat (first | refine zc ?_ _ | refine zd ?_ | refine zb ?_ _)); exact BK274.out) : p := h
theorem zK138 {p : Prop} (h : p := by (with_reducible repeat (first | refine zc ?_ _ | refine zd ?_ | refine zb ?_ _)); refine zw (cs := #[.slice none 0 0, .int .i64 0, .int .i64 0]) ?_ 2 _ rfl; (with_reducible repeat (first | refine zc ?_ _ | refine zd ?_ | refine zb ?_ _)); refine zw (cs := #[.slice none 0 0, .int .i64 0, .int .i64 0]) ?_ 1 _ rfl; (with_reducible repeat (first | refine zc ?_ _ | refine zd ?_ | refine zb ?_ _)); refine zw (cs := #[.slice none 0 0, .int .i64 0, .int .i64 0]) ?_ 0 _ rfl; (with_reducible repeat (first | refine zc ?_ _ | refine zd ?_ | refine zb ?_ _)); exact BK294.out) : p := h
theorem zK139 {p : Prop} (h : p := by (with_reducible repeat (first | refine zc ?_ _ | refine zd ?_ | refine zb ?_ _)); refine zw (cs := #[.slice none 0 0, .int .i64 0, .int .i64 0]) ?_ 2 _ rfl; (with_reducible repeat (first | refine zc ?_ _ | refine zd ?_ | refine zb ?_ _)); refine zw (cs := #[.slice none 0 0, .int .i64 0, .int .i64 0]) ?_ 1 _ rfl; (with_reducible repeat (first | refine zc ?_ _ | refine zd ?_ | refine zb ?_ _)); refine zw (cs := #[.slice none 0 0, .int .i64 0, .int .i64 0]) ?_ 0 _ rfl; (with_reducible repeat (first | refine zc ?_ _ | refine zd ?_ | refine zb ?_ _)); exact BK326.out) : p := h
theorem zK140 {p : Prop} (h : p := by (with_reducible repeat (first | refine zc ?_ _ | refine zd ?_ | refine zb ?_ _)); refine zw (cs := #[.slice none 0 0, .int .i64 0, .int .i64 0]) ?_ 2 _ rfl; (with_reducible repeat (first | refine zc ?_ _ | refine zd ?_ | refine zb ?_ _)); refine zw (cs := #[.slice none 0 0, .int .i64 0, .int .i64 0]) ?_ 1 _ rfl; (with_reducible repeat (first | refine zc ?_ _ | refine zd ?_ | refine zb ?_ _)); refine zw (cs := #[.slice none 0 0, .int .i64 0, .int .i64 0]) ?_ 0 _ rfl; (with_reducible repeat (first | refine zc ?_ _ | refine zd ?_ | refine zb ?_ _)); exact BK373.out) : p := h
theorem zK141 {p : Prop} (h : p := by (with_reducible repeat (first | refine zc ?_ _ | refine zd ?_ | refine zb ?_ _)); refine zw (cs := #[.bool false]) ?_ 0 _ rfl; (with_reducible repeat (first | refine zc ?_ _ | refine zd ?_ | refine zb ?_ _)); refine zr ?_ NB279_278.out _; (with_reducible repeat (first | refine zc ?_ _ | refine zd ?_ | refine zb ?_ _)); refine zr ?_ NB279_278.out _; (with_reducible repeat (first | refine zc ?_ _ | refine zd ?_ | refine zb ?_ _)); refine zr ?_ NB279_278.out _; (with_reducible repeat (first | refine zc ?_ _ | refine zd ?_ | refine zb ?_ _)); exact BK279.out) : p := h
theorem zK142 {p : Prop} (h : p := by (with_reducible repeat (first | refine zc ?_ _ | refine zd ?_ | refine zb ?_ _)); refine zr ?_ NB272_279.out _; (with_reducible repeat (first | refine zc ?_ _ | refine zd ?_ | refine zb ?_ _)); refine zr ?_ NB272_278.out _; (with_reducible repeat (first | refine zc ?_ _ | refine zd ?_ | refine zb ?_ _)); refine zr ?_ NB272_278.out _; (with_reducible repeat (first | refine zc ?_ _ | refine zd ?_ | refine zb ?_ _)); refine zr ?_ NB272_278.out _; (with_reducible repeat (first | refine zc ?_ _ | refine zd ?_ | refine zb ?_ _)); exact BK272.out) : p := h
theorem zK143 {p : Prop} (h : p := by (with_reducible repeat (first | refine zc ?_ _ | refine zd ?_ | refine zb ?_ _)); refine zr ?_ NB273_279.out _; (with_reducible repeat (first | refine zc ?_ _ | refine zd ?_ | refine zb ?_ _)); refine zr ?_ NB273_278.out _; (with_reducible repeat (first | refine zc ?_ _ | refine zd ?_ | refine zb ?_ _)); refine zr ?_ NB273_278.out _; (with_reducible repeat (first | refine zc ?_ _ | refine zd ?_ | refine zb ?_ _)); refine zr ?_ NB273_278.out _; (with_reducible repeat (first | refine zc ?_ _ | refine zd ?_ | refine zb ?_ _)); exact BK273.out) : p := h
theorem zK144 {p : Prop} (h : p := by (with_reducible repeat (first | refine zc ?_ _ | refine zd ?_ | refine zb ?_ _)); refine zr ?_ NB274_279.out _; (with_reducible repeat (first | refine zc ?_ _ | refine zd ?_ | refine zb ?_ _)); refine zr ?_ NB274_278.out _; (with_reducible repeat (first | refine zc ?_ _ | refine zd ?_ | refine zb ?_ _)); refine zr ?_ NB274_278.out _; (with_reducible repeat (first | refine zc ?_ _ | refine zd ?_ | refine zb ?_ _)); refine zr ?_ NB274_278.out _; (with_reducible repeat (first | refine zc ?_ _ | refine zd ?_ | refine zb ?_ _)); exact BK274.out) : p := h
theorem zK145 {p : Prop} (h : p := by (with_reducible repeat (first | refine zc ?_ _ | refine zd ?_ | refine zb ?_ _)); refine zr ?_ NB400_407.out _; (with_reducible repeat (first | refine zc ?_ _ | refine zd ?_ | refine zb ?_ _)); refine zr ?_ NB400_407.out _; (with_reducible repeat (first | refine zc ?_ _ | refine zd ?_ | refine zb ?_ _)); refine zr ?_ NB400_407.out _; (with_reducible repeat (first | refine zc ?_ _ | refine zd ?_ | refine zb ?_ _)); exact BK400.out) : p := h
theorem zK146 {p : Prop} (h : p := by (with_reducible repeat (first | refine zc ?_ _ | refine zd ?_ | refine zb ?_ _)); refine zr ?_ NB1_252.out _; (with_reducible repeat (first | refine zc ?_ _ | refine zd ?_ | refine zb ?_ _)); refine zr ?_ NB1_252.out _; (with_reducible repeat (first | refine zc ?_ _ | refine zd ?_ | refine zb ?_ _)); refine zr ?_ NB1_252.out _; (with_reducible repeat (first | refine zc ?_ _ | refine zd ?_ | refine zb ?_ _)); exact BK1.out) : p := h
theorem zK147 {p : Prop} (h : p := by (with_reducible repeat (first | refine zc ?_ _ | refine zd ?_ | refine zb ?_ _)); refine zr ?_ NB2_252.out _; (with_reducible repeat (first | refine zc ?_ _ | refine zd ?_ | refine zb ?_ _)); refine zr ?_ NB2_252.out _; (with_reducible repeat (first | refine zc ?_ _ | refine zd ?_ | refine zb ?_ _)); refine zr ?_ NB2_252.out _; (with_reducible repeat (first | refine zc ?_ _ | refine zd ?_ | refine zb ?_ _)); exact BK2.out) : p := h
theorem zK148 {p : Prop} (h : p := by (with_reducible repeat (first | refine zc ?_ _ | refine zd ?_ | refine zb ?_ _)); refine zr ?_ NB3_252.out _; (with_reducible repeat (first | refine zc ?_ _ | refine zd ?_ | refine zb ?_ _)); refine zr ?_ NB3_252.out _; (with_reducible repeat (first | refine zc ?_ _ | refine zd ?_ | refine zb ?_ _)); refine zr ?_ NB3_252.out _; (with_reducible repeat (first | refine zc ?_ _ | refine zd ?_ | refine zb ?_ _)); exact BK3.out) : p := h
theorem zK149 {p : Prop} (h : p := by (with_reducible repeat (first | refine zc ?_ _ | refine zd ?_ | refine zb ?_ _)); refine zr ?_ NB4_252.out _; (with_reducible repeat (first | refine zc ?_ _ | refine zd ?_ | refine zb ?_ _)); refine zr ?_ NB4_252.out _; (with_reducible repeat (first | refine zc ?_ _ | refine zd ?_ | refine zb ?_ _)); refine zr ?_ NB4_252.out _; (with_reducible repeat (first | refine zc ?_ _ | refine zd ?_ | refine zb ?_ _)); exact BK4.out) : p := h
theorem zK150 {p : Prop} (h : p := by (with_reducible repeat (first | refine zc ?_ _ | refine zd ?_ | refine zb ?_ _)); refine zr ?_ NB5_252.out _; (with_reducible repeat (first | refine zc ?_ _ | refine zd ?_ | refine zb ?_ _)); refine zr ?_ NB5_252.out _; (with_reducible repeat (first | refine zc ?_ _ | refine zd ?_ | refine zb ?_ _)); refine zr ?_ NB5_252.out _; (with_reducible repeat (first | refine zc ?_ _ | refine zd ?_ | refine zb ?_ _)); exact BK5.out) : p := h
theorem zK151 {p : Prop} (h : p := by (with_reducible repeat (first | apply zj | apply zk | apply zl)); exact (zs (zo (p := ⟨gb210, 2, none⟩) (zo (p := ⟨gb210, 1, none⟩) (zo (p := ⟨gb210, 0, none⟩) (zt HO_5.out BK210.out zG129) (fun _ hk => hk.2) (.string ((rd_T58 l0 x19_2).f0))) (fun _ hk => hk.2) (.int .i64 ((rd_T58 l0 x19_2).f1))) (fun _ hk => hk.2) (.slice A209_2 ((rd_T58 l0 x19_2).f2).length c209_2)) (fun _ h_ => h_.1))) : p := h
theorem zK152 {p : Prop} (h : p := by (with_reducible repeat (first | apply zx | apply zy | apply zaa)); exact (zag (zak (p := ⟨gb415, 2, none⟩) (zak (p := ⟨gb415, 1, none⟩) (zak (p := ⟨gb415, 0, none⟩) (zag HO_3.out (fun k_ hk => (⟨hk, hk.2⟩ : _ ∧ k_ ≠ gb415))) (fun _ hk => hk.2) (.slice Ao101 t409.length co101)) (fun _ hk => hk.2) (.int .i64 t412)) (fun _ hk => hk.2) (.int .i64 t413)) (fun _ h_ => h_.1))) : p := h
theorem zK153 {p : Prop} (h : p := by (with_reducible repeat (first | apply zx | apply zy | apply zaa)); exact (zag (zak (p := ⟨gb415, 2, none⟩) (zak (p := ⟨gb415, 1, none⟩) (zak (p := ⟨gb415, 0, none⟩) (zag HO_3.out (fun k_ hk => (⟨hk, hk.2⟩ : _ ∧ k_ ≠ gb415))) (fun _ hk => hk.2) (.slice Ao123 t409.length co123)) (fun _ hk => hk.2) (.int .i64 t412)) (fun _ hk => hk.2) (.int .i64 t413)) (fun _ h_ => h_.1))) : p := h
theorem zK154 {p : Prop} (h : p := by (with_reducible repeat (first | apply zx | apply zy | apply zaa)); exact (zag (zak (p := ⟨gb415, 2, none⟩) (zak (p := ⟨gb415, 1, none⟩) (zak (p := ⟨gb415, 0, none⟩) (zag HO_3.out (fun k_ hk => (⟨hk, hk.2⟩ : _ ∧ k_ ≠ gb415))) (fun _ hk => hk.2) (.slice Ao145 t409.length co145)) (fun _ hk => hk.2) (.int .i64 t412)) (fun _ hk => hk.2) (.int .i64 t413)) (fun _ h_ => h_.1))) : p := h
theorem zK155 {p : Prop} (h : p := by (with_reducible repeat (first | apply zx | apply zy | apply zaa)); exact (zag (zak (p := ⟨gb400, 2, none⟩) (zak (p := ⟨gb400, 1, none⟩) (zak (p := ⟨gb400, 0, none⟩) (zag HO389.out (fun k_ hk => (⟨hk, hk.2⟩ : _ ∧ k_ ≠ gb400))) (fun _ hk => hk.2) (.slice Ao12 t394.length co12)) (fun _ hk => hk.2) (.int .i64 t397)) (fun _ hk => hk.2) (.int .i64 t398)) (fun _ h_ => h_.1))) : p := h
theorem zK156 {p : Prop} (h : p := by (with_reducible repeat (first | apply zx | apply zy | apply zaa)); exact (zag (zak (p := ⟨gb415, 2, none⟩) (zak (p := ⟨gb415, 1, none⟩) (zak (p := ⟨gb415, 0, none⟩) (zag HO_3.out (fun k_ hk => (⟨hk, hk.2⟩ : _ ∧ k_ ≠ gb415))) (fun _ hk => hk.2) (.slice Ao57 t409.length co57)) (fun _ hk => hk.2) (.int .i64 t412)) (fun _ hk => hk.2) (.int .i64 t413)) (fun _ h_ => h_.1))) : p := h
theorem zK157 {p : Prop} (h : p := by (with_reducible repeat (first | apply zx | apply zy | apply zaa)); exact (zag (zak (p := ⟨gb415, 2, none⟩) (zak (p := ⟨gb415, 1, none⟩) (zak (p := ⟨gb415, 0, none⟩) (zag HO_3.out (fun k_ hk => (⟨hk, hk.2⟩ : _ ∧ k_ ≠ gb415))) (fun _ hk => hk.2) (.slice Ao79 t409.length co79)) (fun _ hk => hk.2) (.int .i64 t412)) (fun _ hk => hk.2) (.int .i64 t413)) (fun _ h_ => h_.1))) : p := h
theorem zK158 {p : Prop} (h : p := by (with_reducible repeat (first | apply zj | apply zk | apply zl)); exact (zs (zo (p := ⟨gb415, 2, none⟩) (zo (p := ⟨gb415, 1, none⟩) (zo (p := ⟨gb415, 0, none⟩) (zt HO_401000.out BK415.out zG129) (fun _ hk => hk.2) (.slice Ao101 t409.length co101)) (fun _ hk => hk.2) (.int .i64 t412)) (fun _ hk => hk.2) (.int .i64 t413)) (fun _ h_ => h_.1))) : p := h
theorem zK159 {p : Prop} (h : p := by (with_reducible repeat (first | apply zj | apply zk | apply zl)); exact (zs (zo (p := ⟨gb415, 2, none⟩) (zo (p := ⟨gb415, 1, none⟩) (zo (p := ⟨gb415, 0, none⟩) (zt HO_408000.out BK415.out zG129) (fun _ hk => hk.2) (.slice Ao101 t409.length co101)) (fun _ hk => hk.2) (.int .i64 t412)) (fun _ hk => hk.2) (.int .i64 t413)) (fun _ h_ => h_.1))) : p := h
theorem zK160 {p : Prop} (h : p := by (with_reducible repeat (first | apply zj | apply zk | apply zl)); exact (zs (zo (p := ⟨gb415, 2, none⟩) (zo (p := ⟨gb415, 1, none⟩) (zo (p := ⟨gb415, 0, none⟩) (zt HO_401000.out BK415.out zG129) (fun _ hk => hk.2) (.slice Ao123 t409.length co123)) (fun _ hk => hk.2) (.int .i64 t412)) (fun _ hk => hk.2) (.int .i64 t413)) (fun _ h_ => h_.1))) : p := h
theorem zK161 {p : Prop} (h : p := by (with_reducible repeat (first | apply zj | apply zk | apply zl)); exact (zs (zo (p := ⟨gb415, 2, none⟩) (zo (p := ⟨gb415, 1, none⟩) (zo (p := ⟨gb415, 0, none⟩) (zt HO_408000.out BK415.out zG129) (fun _ hk => hk.2) (.slice Ao123 t409.length co123)) (fun _ hk => hk.2) (.int .i64 t412)) (fun _ hk => hk.2) (.int .i64 t413)) (fun _ h_ => h_.1))) : p := h
theorem zK162 {p : Prop} (h : p := by (with_reducible repeat (first | apply zj | apply zk | apply zl)); exact (zs (zo (p := ⟨gb415, 2, none⟩) (zo (p := ⟨gb415, 1, none⟩) (zo (p := ⟨gb415, 0, none⟩) (zt HO_401000.out BK415.out zG129) (fun _ hk => hk.2) (.slice Ao145 t409.length co145)) (fun _ hk => hk.2) (.int .i64 t412)) (fun _ hk => hk.2) (.int .i64 t413)) (fun _ h_ => h_.1))) : p := h
theorem zK163 {p : Prop} (h : p := by (with_reducible repeat (first | apply zj | apply zk | apply zl)); exact (zs (zo (p := ⟨gb415, 2, none⟩) (zo (p := ⟨gb415, 1, none⟩) (zo (p := ⟨gb415, 0, none⟩) (zt HO_408000.out BK415.out zG129) (fun _ hk => hk.2) (.slice Ao145 t409.length co145)) (fun _ hk => hk.2) (.int .i64 t412)) (fun _ hk => hk.2) (.int .i64 t413)) (fun _ h_ => h_.1))) : p := h
theorem zK164 {p : Prop} (h : p := by (with_reducible repeat (first | apply zj | apply zk | apply zl)); exact (zs (zo (p := ⟨gb415, 2, none⟩) (zo (p := ⟨gb415, 1, none⟩) (zo (p := ⟨gb415, 0, none⟩) (zt HO_401000.out BK415.out zG129) (fun _ hk => hk.2) (.slice Ao57 t409.length co57)) (fun _ hk => hk.2) (.int .i64 t412)) (fun _ hk => hk.2) (.int .i64 t413)) (fun _ h_ => h_.1))) : p := h
theorem zK165 {p : Prop} (h : p := by (with_reducible repeat (first | apply zj | apply zk | apply zl)); exact (zs (zo (p := ⟨gb415, 2, none⟩) (zo (p := ⟨gb415, 1, none⟩) (zo (p := ⟨gb415, 0, none⟩) (zt HO_408000.out BK415.out zG129) (fun _ hk => hk.2) (.slice Ao57 t409.length co57)) (fun _ hk => hk.2) (.int .i64 t412)) (fun _ hk => hk.2) (.int .i64 t413)) (fun _ h_ => h_.1))) : p := h
theorem zK166 {p : Prop} (h : p := by (with_reducible repeat (first | apply zj | apply zk | apply zl)); exact (zs (zo (p := ⟨gb415, 2, none⟩) (zo (p := ⟨gb415, 1, none⟩) (zo (p := ⟨gb415, 0, none⟩) (zt HO_401000.out BK415.out zG129) (fun _ hk => hk.2) (.slice Ao79 t409.length co79)) (fun _ hk => hk.2) (.int .i64 t412)) (fun _ hk => hk.2) (.int .i64 t413)) (fun _ h_ => h_.1))) : p := h
theorem zK167 {p : Prop} (h : p := by (with_reducible repeat (first | apply zj | apply zk | apply zl)); exact (zs (zo (p := ⟨gb415, 2, none⟩) (zo (p := ⟨gb415, 1, none⟩) (zo (p := ⟨gb415, 0, none⟩) (zt HO_408000.out BK415.out zG129) (fun _ hk => hk.2) (.slice Ao79 t409.length co79)) (fun _ hk => hk.2) (.int .i64 t412)) (fun _ hk => hk.2) (.int .i64 t413)) (fun _ h_ => h_.1))) : p := h
theorem zK168 {p : Prop} (h : p := by (with_reducible repeat (first | apply zj | apply zk | apply zl)); exact (zs (zo (p := ⟨gb415, 2, none⟩) (zo (p := ⟨gb415, 1, none⟩) (zo (p := ⟨gb415, 0, none⟩) (zt HO411.out BK415.out zG129) (fun _ hk => hk.2) (.slice Ao101 t409.length co101)) (fun _ hk => hk.2) (.int .i64 t412)) (fun _ hk => hk.2) (.int .i64 t413)) (fun _ h_ => h_.1))) : p := h
theorem zK169 {p : Prop} (h : p := by (with_reducible repeat (first | apply zj | apply zk | apply zl)); exact (zs (zo (p := ⟨gb415, 2, none⟩) (zo (p := ⟨gb415, 1, none⟩) (zo (p := ⟨gb415, 0, none⟩) (zt HO411.out BK415.out zG129) (fun _ hk => hk.2) (.slice Ao123 t409.length co123)) (fun _ hk => hk.2) (.int .i64 t412)) (fun _ hk => hk.2) (.int .i64 t413)) (fun _ h_ => h_.1))) : p := h
theorem zK170 {p : Prop} (h : p := by (with_reducible repeat (first | apply zj | apply zk | apply zl)); exact (zs (zo (p := ⟨gb415, 2, none⟩) (zo (p := ⟨gb415, 1, none⟩) (zo (p := ⟨gb415, 0, none⟩) (zt HO411.out BK415.out zG129) (fun _ hk => hk.2) (.slice Ao145 t409.length co145)) (fun _ hk => hk.2) (.int .i64 t412)) (fun _ hk => hk.2) (.int .i64 t413)) (fun _ h_ => h_.1))) : p := h
theorem zK171 {p : Prop} (h : p := by (with_reducible repeat (first | apply zj | apply zk | apply zl)); exact (zs (zo (p := ⟨gb415, 2, none⟩) (zo (p := ⟨gb415, 1, none⟩) (zo (p := ⟨gb415, 0, none⟩) (zt HO_4.out BK415.out zG129) (fun _ hk => hk.2) (.slice Ao101 t409.length co101)) (fun _ hk => hk.2) (.int .i64 t412)) (fun _ hk => hk.2) (.int .i64 t413)) (fun _ h_ => h_.1))) : p := h
theorem zK172 {p : Prop} (h : p := by (with_reducible repeat (first | apply zj | apply zk | apply zl)); exact (zs (zo (p := ⟨gb415, 2, none⟩) (zo (p := ⟨gb415, 1, none⟩) (zo (p := ⟨gb415, 0, none⟩) (zt HO_4.out BK415.out zG129) (fun _ hk => hk.2) (.slice Ao123 t409.length co123)) (fun _ hk => hk.2) (.int .i64 t412)) (fun _ hk => hk.2) (.int .i64 t413)) (fun _ h_ => h_.1))) : p := h
theorem zK173 {p : Prop} (h : p := by (with_reducible repeat (first | apply zj | apply zk | apply zl)); exact (zs (zo (p := ⟨gb415, 2, none⟩) (zo (p := ⟨gb415, 1, none⟩) (zo (p := ⟨gb415, 0, none⟩) (zt HO_4.out BK415.out zG129) (fun _ hk => hk.2) (.slice Ao145 t409.length co145)) (fun _ hk => hk.2) (.int .i64 t412)) (fun _ hk => hk.2) (.int .i64 t413)) (fun _ h_ => h_.1))) : p := h
theorem zK174 {p : Prop} (h : p := by (with_reducible repeat (first | apply zj | apply zk | apply zl)); exact (zs (zo (p := ⟨gb400, 2, none⟩) (zo (p := ⟨gb400, 1, none⟩) (zo (p := ⟨gb400, 0, none⟩) (zt HO391.out BK400.out zG129) (fun _ hk => hk.2) (.slice Ao12 t394.length co12)) (fun _ hk => hk.2) (.int .i64 t397)) (fun _ hk => hk.2) (.int .i64 t398)) (fun _ h_ => h_.1))) : p := h
theorem zK175 {p : Prop} (h : p := by (with_reducible repeat (first | apply zj | apply zk | apply zl)); exact (zs (zo (p := ⟨gb400, 2, none⟩) (zo (p := ⟨gb400, 1, none⟩) (zo (p := ⟨gb400, 0, none⟩) (zt HO393.out BK400.out zG129) (fun _ hk => hk.2) (.slice Ao12 t394.length co12)) (fun _ hk => hk.2) (.int .i64 t397)) (fun _ hk => hk.2) (.int .i64 t398)) (fun _ h_ => h_.1))) : p := h
theorem zK176 {p : Prop} (h : p := by (with_reducible repeat (first | apply zj | apply zk | apply zl)); exact (zs (zo (p := ⟨gb400, 2, none⟩) (zo (p := ⟨gb400, 1, none⟩) (zo (p := ⟨gb400, 0, none⟩) (zt HO396.out BK400.out zG129) (fun _ hk => hk.2) (.slice Ao12 t394.length co12)) (fun _ hk => hk.2) (.int .i64 t397)) (fun _ hk => hk.2) (.int .i64 t398)) (fun _ h_ => h_.1))) : p := h
theorem zK177 {p : Prop} (h : p := by (with_reducible repeat (first | apply zj | apply zk | apply zl)); exact (zs (zo (p := ⟨gb407, 2, none⟩) (zo (p := ⟨gb407, 1, none⟩) (zo (p := ⟨gb407, 0, none⟩) (zt HO393.out BK407.out zG129) (fun _ hk => hk.2) (.slice Ao17 t401.length co17)) (fun _ hk => hk.2) (.int .i64 t404)) (fun _ hk => hk.2) (.int .i64 t405)) (fun _ h_ => h_.1))) : p := h
theorem zK178 {p : Prop} (h : p := by (with_reducible repeat (first | apply zj | apply zk | apply zl)); exact (zs (zo (p := ⟨gb407, 2, none⟩) (zo (p := ⟨gb407, 1, none⟩) (zo (p := ⟨gb407, 0, none⟩) (zt HO396.out BK407.out zG129) (fun _ hk => hk.2) (.slice Ao17 t401.length co17)) (fun _ hk => hk.2) (.int .i64 t404)) (fun _ hk => hk.2) (.int .i64 t405)) (fun _ h_ => h_.1))) : p := h
theorem zK179 {p : Prop} (h : p := by (with_reducible repeat (first | apply zj | apply zk | apply zl)); exact (zs (zo (p := ⟨gb407, 2, none⟩) (zo (p := ⟨gb407, 1, none⟩) (zo (p := ⟨gb407, 0, none⟩) (zt HO403.out BK407.out zG129) (fun _ hk => hk.2) (.slice Ao17 t401.length co17)) (fun _ hk => hk.2) (.int .i64 t404)) (fun _ hk => hk.2) (.int .i64 t405)) (fun _ h_ => h_.1))) : p := h
theorem zK180 {p : Prop} (h : p := by (with_reducible repeat (first | apply zj | apply zk | apply zl)); exact (zs (zo (p := ⟨gb415, 2, none⟩) (zo (p := ⟨gb415, 1, none⟩) (zo (p := ⟨gb415, 0, none⟩) (zt HO411.out BK415.out zG129) (fun _ hk => hk.2) (.slice Ao57 t409.length co57)) (fun _ hk => hk.2) (.int .i64 t412)) (fun _ hk => hk.2) (.int .i64 t413)) (fun _ h_ => h_.1))) : p := h
theorem zK181 {p : Prop} (h : p := by (with_reducible repeat (first | apply zj | apply zk | apply zl)); exact (zs (zo (p := ⟨gb415, 2, none⟩) (zo (p := ⟨gb415, 1, none⟩) (zo (p := ⟨gb415, 0, none⟩) (zt HO411.out BK415.out zG129) (fun _ hk => hk.2) (.slice Ao79 t409.length co79)) (fun _ hk => hk.2) (.int .i64 t412)) (fun _ hk => hk.2) (.int .i64 t413)) (fun _ h_ => h_.1))) : p := h
theorem zK182 {p : Prop} (h : p := by (with_reducible repeat (first | apply zj | apply zk | apply zl)); exact (zs (zo (p := ⟨gb252, 2, none⟩) (zo (p := ⟨gb252, 1, none⟩) (zo (p := ⟨gb252, 0, none⟩) (zt HO248.out BK252.out zG129) (fun _ hk => hk.2) (.slice Ao24 t246.length co24)) (fun _ hk => hk.2) (.int .i64 t249)) (fun _ hk => hk.2) (.int .i64 t250)) (fun _ h_ => h_.1))) : p := h
theorem zK183 {p : Prop} (h : p := by (with_reducible repeat (first | apply zj | apply zk | apply zl)); exact (zs (zo (p := ⟨gb252, 2, none⟩) (zo (p := ⟨gb252, 1, none⟩) (zo (p := ⟨gb252, 0, none⟩) (zt HO4_0.out BK252.out zG129) (fun _ hk => hk.2) (.slice Ao24 t246.length co24)) (fun _ hk => hk.2) (.int .i64 t249)) (fun _ hk => hk.2) (.int .i64 t250)) (fun _ h_ => h_.1))) : p := h
theorem zK184 {p : Prop} (h : p := by (with_reducible repeat (first | apply zj | apply zk | apply zl)); exact (zs (zo (p := ⟨gb252, 2, none⟩) (zo (p := ⟨gb252, 1, none⟩) (zo (p := ⟨gb252, 0, none⟩) (zt HO248.out BK252.out zG129) (fun _ hk => hk.2) (.slice Ao52 t246.length co52)) (fun _ hk => hk.2) (.int .i64 t249)) (fun _ hk => hk.2) (.int .i64 t250)) (fun _ h_ => h_.1))) : p := h
theorem zK185 {p : Prop} (h : p := by (with_reducible repeat (first | apply zj | apply zk | apply zl)); exact (zs (zo (p := ⟨gb252, 2, none⟩) (zo (p := ⟨gb252, 1, none⟩) (zo (p := ⟨gb252, 0, none⟩) (zt HO4_0.out BK252.out zG129) (fun _ hk => hk.2) (.slice Ao52 t246.length co52)) (fun _ hk => hk.2) (.int .i64 t249)) (fun _ hk => hk.2) (.int .i64 t250)) (fun _ h_ => h_.1))) : p := h
theorem zK186 {p : Prop} (h : p := by (with_reducible repeat (first | apply zj | apply zk | apply zl)); exact (zs (zo (p := ⟨gb415, 2, none⟩) (zo (p := ⟨gb415, 1, none⟩) (zo (p := ⟨gb415, 0, none⟩) (zt HO_4.out BK415.out zG129) (fun _ hk => hk.2) (.slice Ao57 t409.length co57)) (fun _ hk => hk.2) (.int .i64 t412)) (fun _ hk => hk.2) (.int .i64 t413)) (fun _ h_ => h_.1))) : p := h
theorem zK187 {p : Prop} (h : p := by (with_reducible repeat (first | apply zj | apply zk | apply zl)); exact (zs (zo (p := ⟨gb415, 2, none⟩) (zo (p := ⟨gb415, 1, none⟩) (zo (p := ⟨gb415, 0, none⟩) (zt HO_4.out BK415.out zG129) (fun _ hk => hk.2) (.slice Ao79 t409.length co79)) (fun _ hk => hk.2) (.int .i64 t412)) (fun _ hk => hk.2) (.int .i64 t413)) (fun _ h_ => h_.1))) : p := h
theorem zK188 {p : Prop} (h : p := by first | exact HK.out.1 | exact (show Kept w _ (fun k_ => (P0_2_ k_) ∨ k_ = gi0) from by repeat (first | (with_reducible first | exact HK.out | apply Kept.alloc | apply Kept.drewN | apply Kept.drew | refine Kept.setCell ?_ (.inl (Or.inr rfl)) _ | refine Kept.setCell ?_ (.inr GW354.out) _) | exact HK.out)).1) : p := h
theorem zK189 {p : Prop} (h : p := by (try simp only [List.map_toArray, List.map_cons, List.map_nil]); first | done | (rw [show (l2.take (x16_1 : Int).toNat).length = x16_1.toNat from (by rw [List.length_take]; have h_ : (x16_1 : Int) ≤ (l2.length : Int) := zO; omega)] <;> rfl) | rfl | (simp only [List.length_drop, List.length_take]; rfl)) : p := h
theorem zK190 {p : Prop} (h : p := by (try simp only [List.map_toArray, List.map_cons, List.map_nil]); first | done | (rw [show (l0.take (x7_1 : Int).toNat).length = x7_1.toNat from (by rw [List.length_take]; have h_ : (x7_1 : Int) ≤ (l0.length : Int) := zO; omega)] <;> rfl) | rfl | (simp only [List.length_drop, List.length_take]; rfl)) : p := h
theorem zK191 {p : Prop} (h : p := by rw [hw]; exact (by repeat (first | (with_reducible first | exact HB.out | apply zh | apply zf | apply zg | refine ze ?_ GE272.out | refine ze ?_ GE273.out | refine ze ?_ GE274.out | refine ze ?_ GE278.out | refine ze ?_ GE279.out | refine ze ?_ GE280.out) | exact HB.out))) : p := h
theorem zK192 {p : Prop} (h : p := by repeat (first | (with_reducible first | exact HK.out | apply Kept.alloc | apply Kept.drewN | apply Kept.drew | refine Kept.setCell ?_ (.inl (Or.inl (Or.inr rfl))) _ | refine Kept.setCell ?_ (.inl (Or.inr rfl)) _ | refine Kept.setCell ?_ (.inr GW252.out) _) | exact HK.out)) : p := h
theorem zK193 {p : Prop} (h : p := by repeat (first | (with_reducible first | exact HB.out | apply zh | apply zf | apply zg | refine ze ?_ GE1.out | refine ze ?_ GE2.out | refine ze ?_ GE3.out | refine ze ?_ GE4.out | refine ze ?_ GE5.out | refine ze ?_ GE252.out) | exact HB.out)) : p := h
theorem zK194 {p : Prop} (h : p := by rw [hw]; exact (by (with_reducible repeat (first | refine zc ?_ _ | refine zd ?_ | refine zb ?_ _)); refine zw (cs := #[.nilFunc]) ?_ 0 _ rfl; (with_reducible repeat (first | refine zc ?_ _ | refine zd ?_ | refine zb ?_ _)); exact BK280.out)) : p := h
theorem zK195 {p : Prop} (h : p := by rw [hw]; exact (by (with_reducible repeat (first | refine zc ?_ _ | refine zd ?_ | refine zb ?_ _)); refine zr ?_ NB272_280.out _; (with_reducible repeat (first | refine zc ?_ _ | refine zd ?_ | refine zb ?_ _)); exact BK272.out)) : p := h
theorem zK196 {p : Prop} (h : p := by rw [hw]; exact (by (with_reducible repeat (first | refine zc ?_ _ | refine zd ?_ | refine zb ?_ _)); refine zr ?_ NB273_280.out _; (with_reducible repeat (first | refine zc ?_ _ | refine zd ?_ | refine zb ?_ _)); exact BK273.out)) : p := h
theorem zK197 {p : Prop} (h : p := by rw [hw]; exact (by (with_reducible repeat (first | refine zc ?_ _ | refine zd ?_ | refine zb ?_ _)); refine zr ?_ NB274_280.out _; (with_reducible repeat (first | refine zc ?_ _ | refine zd ?_ | refine zb ?_ _)); exact BK274.out)) : p := h
theorem zK198 {p : Prop} (h : p := by rw [hw]; exact (by (with_reducible repeat (first | refine zc ?_ _ | refine zd ?_ | refine zb ?_ _)); refine zr ?_ NB278_280.out _; (with_reducible repeat (first | refine zc ?_ _ | refine zd ?_ | refine zb ?_ _)); exact BK278.out)) : p := h
theorem zK199 {p : Prop} (h : p := by rw [hw]; exact (by (with_reducible repeat (first | refine zc ?_ _ | refine zd ?_ | refine zb ?_ _)); refine zr ?_ NB279_280.out _; (with_reducible repeat (first | refine zc ?_ _ | refine zd ?_ | refine zb ?_ _)); exact BK279.out)) : p := h
theorem zK200 {p : Prop} (h : p := by repeat (first | (with_reducible first | exact HB.out | apply zh | apply zf | apply zg | refine ze ?_ GE272.out | refine ze ?_ GE273.out | refine ze ?_ GE274.out | refine ze ?_ GE278.out | refine ze ?_ GE279.out) | exact HB.out)) : p := h
theorem zK201 {p : Prop} (h : p := by (with_reducible repeat (first | apply zx | apply zy | apply zaa)); exact zag HO_3.out (fun _ hk => ⟨⟨hk.1.1.1.1, ⟨hk.1.1.1.2.1, ⟨hk.1.1.1.2.2.1, ⟨hk.1.1.2, ⟨hk.1.1.1.2.2.2.1, ⟨hk.1.1.1.2.2.2.2, hk.1.2⟩⟩⟩⟩⟩⟩, hk.2⟩)) : p := h
theorem zK202 {p : Prop} (h : p := by repeat (first | (with_reducible first | exact HB.out | apply zh | apply zf | apply zg | refine ze ?_ GE272.out | refine ze ?_ GE273.out | refine ze ?_ GE274.out | refine ze ?_ GE278.out) | exact HB.out)) : p := h
theorem zK203 {p : Prop} (h : p := by repeat (first | (with_reducible first | exact HI144.out | apply IsS168.alloc | apply IsS168.drewN | apply IsS168.drew | apply IsS168.set_1 | apply IsS168.set_2) | exact HI144.out)) : p := h
theorem zK204 {p : Prop} (h : p := by repeat (first | (with_reducible first | exact HI0.out | apply IsS168.alloc | apply IsS168.drewN | apply IsS168.drew | apply IsS168.set_1 | apply IsS168.set_2) | exact HI0.out)) : p := h
theorem zK205 {p : Prop} (h : p := by repeat (first | (with_reducible exact HR355_2.out) | (with_reducible refine zab ?_ _) | (with_reducible refine zac ?_ _) | (with_reducible refine zad ?_) | exact HR355_2.out)) : p := h
theorem zK206 {p : Prop} (h : p := by repeat (first | (with_reducible exact HR254_2.out) | (with_reducible refine zab ?_ _) | (with_reducible refine zac ?_ _) | (with_reducible refine zad ?_) | exact HR254_2.out)) : p := h
theorem zK207 {p : Prop} (h : p := by repeat (first | (with_reducible first | exact HB.out | apply zh | apply zf | apply zg | refine ze ?_ GE232.out | refine ze ?_ GE236.out) | exact HB.out)) : p := h
theorem zK208 {p : Prop} (h : p := by repeat (first | (with_reducible first | exact HB.out | apply zh | apply zf | apply zg | refine ze ?_ GE272.out | refine ze ?_ GE273.out) | exact HB.out)) : p := h
theorem zK209 {p : Prop} (h : p := by repeat (first | (with_reducible first | exact HB.out | apply zh | apply zf | apply zg | refine ze ?_ GE373.out | refine ze ?_ GE375.out) | exact HB.out)) : p := h
theorem zK210 {p : Prop} (h : p := by repeat (first | (with_reducible first | exact HB.out | apply zh | apply zf | apply zg | refine ze ?_ (IsS168.ge HI0.out)) | exact HB.out)) : p := h
theorem zK211 {p : Prop} (h : p := by repeat (first | (with_reducible first | exact HB.out | apply zh | apply zf | apply zg | refine ze ?_ GE322.out) | exact HB.out)) : p := h
theorem zK212 {p : Prop} (h : p := by repeat (first | (with_reducible first | exact HB.out | apply zh | apply zf | apply zg | refine ze ?_ GE232.out) | exact HB.out)) : p := h
theorem zK213 {p : Prop} (h : p := by repeat (first | (with_reducible first | exact HB.out | apply zh | apply zf | apply zg | refine ze ?_ GE244.out) | exact HB.out)) : p := h
theorem zK214 {p : Prop} (h : p := by repeat (first | (with_reducible first | exact HB.out | apply zh | apply zf | apply zg | refine ze ?_ GE272.out) | exact HB.out)) : p := h
theorem zK215 {p : Prop} (h : p := by repeat (first | (with_reducible first | exact HB.out | apply zh | apply zf | apply zg | refine ze ?_ GE291.out) | exact HB.out)) : p := h
theorem zK216 {p : Prop} (h : p := by repeat (first | (with_reducible first | exact HB.out | apply zh | apply zf | apply zg | refine ze ?_ GE198.out) | exact HB.out)) : p := h
theorem zK217 {p : Prop} (h : p := by repeat (first | (with_reducible first | exact HB.out | apply zh | apply zf | apply zg | refine ze ?_ GE210.out) | exact HB.out)) : p := h
theorem zK218 {p : Prop} (h : p := by repeat (first | (with_reducible first | exact HB.out | apply zh | apply zf | apply zg | refine ze ?_ GE326.out) | exact HB.out)) : p := h
theorem zK219 {p : Prop} (h : p := by repeat (first | (with_reducible first | exact HB.out | apply zh | apply zf | apply zg | refine ze ?_ GE373.out) | exact HB.out)) : p := h
theorem zK220 {p : Prop} (h : p := by repeat (first | (with_reducible first | exact HB.out | apply zh | apply zf | apply zg | refine ze ?_ GE400.out) | exact HB.out)) : p := h
theorem zK221 {p : Prop} (h : p := by repeat (first | (with_reducible first | exact HB.out | apply zh | apply zf | apply zg | refine ze ?_ GE221.out) | exact HB.out)) : p := h
theorem zK222 {p : Prop} (h : p := by repeat (first | (with_reducible first | exact HB.out | apply zh | apply zf | apply zg | refine ze ?_ GE28.out) | exact HB.out)) : p := h
theorem zK223 {p : Prop} (h : p := by repeat (first | (with_reducible first | exact HB.out | apply zh | apply zf | apply zg | refine ze ?_ GE1.out) | exact HB.out)) : p := h
theorem zK224 {p : Prop} (h : p := by (with_reducible repeat (first | apply zj | apply zk | apply zl)); exact zs HO259.out (fun _ hk => ⟨hk.1.1.1, ⟨hk.2, hk.1.2⟩⟩)) : p := h
theorem zK225 {p : Prop} (h : p := by (with_reducible repeat (first | apply zj | apply zk | apply zl)); exact zs HO262.out (fun _ hk => ⟨hk.1.1.1, ⟨hk.2, hk.1.2⟩⟩)) : p := h
theorem zK226 {p : Prop} (h : p := by (with_reducible repeat (first | apply zj | apply zk | apply zl)); exact zs HO350.out (fun _ hk => ⟨hk.1.1, hk.2⟩)) : p := h
theorem zK227 {p : Prop} (h : p := by (with_reducible repeat (first | refine zc ?_ _ | refine zd ?_ | refine zb ?_ _)); exact BK322.out) : p := h
theorem zK228 {p : Prop} (h : p := by (with_reducible repeat (first | refine zc ?_ _ | refine zd ?_ | refine zb ?_ _)); exact BK232.out) : p := h
theorem zK229 {p : Prop} (h : p := by (with_reducible repeat (first | refine zc ?_ _ | refine zd ?_ | refine zb ?_ _)); exact BK236.out) : p := h
theorem zK230 {p : Prop} (h : p := by (with_reducible repeat (first | refine zc ?_ _ | refine zd ?_ | refine zb ?_ _)); exact BK244.out) : p := h
theorem zK231 {p : Prop} (h : p := by (with_reducible repeat (first | refine zc ?_ _ | refine zd ?_ | refine zb ?_ _)); exact BK278.out) : p := h
theorem zK232 {p : Prop} (h : p := by (with_reducible repeat (first | refine zc ?_ _ | refine zd ?_ | refine zb ?_ _)); exact BK291.out) : p := h
theorem zK233 {p : Prop} (h : p := by (with_reducible repeat (first | refine zc ?_ _ | refine zd ?_ | refine zb ?_ _)); exact BK294.out) : p := h
theorem zK234 {p : Prop} (h : p := by (with_reducible repeat (first | refine zc ?_ _ | refine zd ?_ | refine zb ?_ _)); exact BK328.out) : p := h
theorem zK235 {p : Prop} (h : p := by (with_reducible repeat (first | refine zc ?_ _ | refine zd ?_ | refine zb ?_ _)); exact BK221.out) : p := h
theorem zK236 {p : Prop} (h : p := by (with_reducible repeat (first | refine zc ?_ _ | refine zd ?_ | refine zb ?_ _)); exact BK28.out) : p := h
theorem zK237 {p : Prop} (h : p := by (with_reducible repeat (first | apply zj | apply zk | apply zl)); exact HO_237000.out) : p := h
theorem zK238 {p : Prop} (h : p := by (with_reducible repeat (first | apply zj | apply zk | apply zl)); exact HO_329000.out) : p := h
theorem zK239 {p : Prop} (h : p := by (with_reducible repeat (first | apply zbe | apply zbf | apply zbl)); exact HO_6.out) : p := h
theorem zK240 {p : Prop} (h : p := by (with_reducible repeat (first | apply zj | apply zk | apply zl)); exact HO_1002.out) : p := h
theorem zK241 {p : Prop} (h : p := by (with_reducible repeat (first | apply zj | apply zk | apply zl)); exact HO_5000.out) : p := h
theorem zK242 {p : Prop} (h : p := by (with_reducible repeat (first | apply zx | apply zy | apply zaa)); exact HO389.out) : p := h
theorem zK243 {p : Prop} (h : p := by (with_reducible repeat (first | apply zx | apply zy | apply zaa)); exact HO424.out) : p := h
theorem zK244 {p : Prop} (h : p := by (with_reducible repeat (first | apply zj | apply zk | apply zl)); exact HO350.out) : p := h
theorem zK245 {p : Prop} (h : p := by (with_reducible repeat (first | apply zj | apply zk | apply zl)); exact HO391.out) : p := h
theorem zK246 {p : Prop} (h : p := by (with_reducible repeat (first | apply zj | apply zk | apply zl)); exact HO393.out) : p := h
theorem zK247 {p : Prop} (h : p := by (with_reducible repeat (first | apply zj | apply zk | apply zl)); exact HO427.out) : p := h
theorem zK248 {p : Prop} (h : p := by (with_reducible repeat (first | apply zj | apply zk | apply zl)); exact HO121.out) : p := h
theorem zK249 {p : Prop} (h : p := by (with_reducible repeat (first | apply zj | apply zk | apply zl)); exact HO4_0.out) : p := h
theorem zK250 {p : Prop} (h : p := by (with_reducible repeat (first | apply zj | apply zk | apply zl)); exact HO248.out) : p := h
theorem zK251 {p : Prop} (h : p := by (with_reducible repeat (first | apply zj | apply zk | apply zl)); exact HO262.out) : p := h
theorem zK252 {p : Prop} (h : p := by (with_reducible repeat (first | apply zj | apply zk | apply zl)); exact HO_5.out) : p := h
theorem zK253 {p : Prop} (h : p := by (with_reducible repeat (first | apply zj | apply zk | apply zl)); exact HO_6.out) : p := h
theorem zK254 {p : Prop} (h : p := by (with_reducible repeat (first | apply zj | apply zk | apply zl)); exact HO_9.out) : p := h
theorem zK255 {p : Prop} (h : p := by (with_reducible repeat (first | apply zj | apply zk | apply zl)); exact HO_7.out) : p := h
end Go.Proofs.Ytojncbpeeboooaa.X
