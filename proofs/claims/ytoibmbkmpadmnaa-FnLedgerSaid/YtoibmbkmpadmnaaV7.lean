-- made by pp.py (wip/tools) out of the translation; Lean checks it
import Derived.Test.YtoibmbkmpadmnaaV0
import Derived.Test.YtoibmbkmpadmnaaV6
namespace Go.Proofs.Ytoibmbkmpadmnaa.V
open Go.RowKit Go.Proofs.YtoibmbkmpadmnaaW.PrintWords Go.Proofs.YtoibmbkmpadmnaaW.PrintLast Go.Proofs.YtoibmbkmpadmnaaW.PrintMore
attribute [local go_sem] max2_int min2_int max_two min_two max_three min_three max_four min_four   -- for this text's walks alone
set_option linter.unusedVariables false
set_option linter.unusedSimpArgs false

/-! ### slices_IndexFunc_at_impl_Ledger_card_1: function 500000 -/
def slices_IndexFunc_at_impl_Ledger_card_1.l0 : Nat → List (S39) → Int → Int → ByteArray → Option (Int)
  | 0, _, _, _, _ => none
  | k + 1, x0, x7, x8, x29000 => if x8 < x7 then (if 0 ≤ x8 then (if x8 < (x0.length : Int) then ((impl_Ledger_card_1.f ((rd_T39 x0 x8).f0) ((rd_T39 x0 x8).f1) ((rd_T39 x0 x8).f2) ((rd_T39 x0 x8).f3) x29000).bind fun t263 => (if t263 = true then (some x8) else (slices_IndexFunc_at_impl_Ledger_card_1.l0 k x0 x7 (wrap64 (x8 + 1)) x29000))) else (none)) else (none)) else (some (-1))
def slices_IndexFunc_at_impl_Ledger_card_1.f (k : Nat) (l0 : List (S39)) (a1_0 : ByteArray) : Option (Int) := slices_IndexFunc_at_impl_Ledger_card_1.l0 k l0 (l0.length : Int) 0 a1_0
theorem slices_IndexFunc_at_impl_Ledger_card_1.mono_l : ∀ k, (∀ y0 y1 y2 y3, LeO (slices_IndexFunc_at_impl_Ledger_card_1.l0 k y0 y1 y2 y3) (slices_IndexFunc_at_impl_Ledger_card_1.l0 (k + 1) y0 y1 y2 y3))
  | 0 => fun _ _ _ _ r h => by simp [slices_IndexFunc_at_impl_Ledger_card_1.l0] at h
  | k + 1 => by
    have ih0 := slices_IndexFunc_at_impl_Ledger_card_1.mono_l k
    · intro y0 y1 y2 y3
      unfold slices_IndexFunc_at_impl_Ledger_card_1.l0
      repeat' first
      | (with_reducible exact ih0 _ _ _ _)
      | (with_reducible exact LeO.refl _)
      | (with_reducible exact LeO.none _)
      | (with_reducible refine LeO.ite ?_ ?_)
      | (with_reducible refine LeO.bind ?_ (fun _ => ?_))
      | exact ih0 _ _ _ _
      | exact LeO.none _
      | refine LeO.ite ?_ ?_
      | refine LeO.bind ?_ (fun _ => ?_)
theorem slices_IndexFunc_at_impl_Ledger_card_1.mono : ∀ a0 a1 k, LeO (slices_IndexFunc_at_impl_Ledger_card_1.f k a0 a1) (slices_IndexFunc_at_impl_Ledger_card_1.f (k + 1) a0 a1) := by
  intro a0 a1 k
  have ih0 := slices_IndexFunc_at_impl_Ledger_card_1.mono_l k
  unfold slices_IndexFunc_at_impl_Ledger_card_1.f
  repeat' first
      | (with_reducible exact ih0 _ _ _ _)
      | (with_reducible exact LeO.refl _)
      | (with_reducible exact LeO.none _)
      | (with_reducible refine LeO.ite ?_ ?_)
      | (with_reducible refine LeO.bind ?_ (fun _ => ?_))
      | exact ih0 _ _ _ _
      | exact LeO.none _
      | refine LeO.ite ?_ ?_
      | refine LeO.bind ?_ (fun _ => ?_)
set_option maxHeartbeats 64000000 in
set_option maxRecDepth 100000 in
theorem slices_IndexFunc_at_impl_Ledger_card_1.calls (k : Nat) (A0 : Option Addr) (c0 : Nat) (l0 : List (S39)) (gc1_0 : Nat) (a1_0 : ByteArray) (r : Int) (w : World) (hr0 : Kd.C k39 w A0 l0.length l0) (hc0 : l0.length ≤ c0) (hk1_0 : w.heap[gc1_0]? = some (.cells #[.string a1_0] 9 (0, 0))) (h : slices_IndexFunc_at_impl_Ledger_card_1.f k l0 a1_0 = some r) :
    Calls Try.prog 66 #[.slice A0 l0.length c0, .func (.func 67) #[] #[.pointer (some ⟨gc1_0, 0, none⟩)]] w fun e w' => e = .returned (.int .i64 r) ∧ Below w.heap.size w w' := by
  have hu39 := Try.underlying39
  have HR0 := Aside0.mk hr0
  have HC0 := Aside0.mk hc0
  clear hr0 hc0
  have BK28 := Aside0.mk hk1_0
  clear hk1_0
  have HB := Aside0.mk (Below.refl w.heap.size w)
  have H : (slices_IndexFunc_at_impl_Ledger_card_1.l0 k l0 (l0.length : Int) 0 a1_0) = some r := h
  clear h
  have H' := Aside0.mk H
  clear H
  go_enter Try.func66, Try.ntmps66
  go_wp2
  go_loopg [8] k (fun kq v8 w' => ∃ (x8_1 : Int), v8 = .int .i64 x8_1 ∧ Aside0 (slices_IndexFunc_at_impl_Ledger_card_1.l0 kq l0 (l0.length : Int) x8_1 a1_0 = some r) ∧ Aside0 (kq ≤ k) ∧ Aside0 (w'.heap[gc1_0]? = some (.cells #[.string a1_0] 9 (0, 0))) ∧ Aside0 (Below w.heap.size w w'))
  case atStart => exact ⟨(0), (by first | rfl | (simp; done) | (simp [*]; done)), H', ⟨Nat.le_refl _⟩, ⟨by (with_reducible repeat (first | refine blk_drewN ?_ _ | refine blk_drew ?_ | refine blk_alloc ?_ _)); exact BK28.out⟩, ⟨by repeat (first | (with_reducible first | exact HB.out | apply below_alloc | apply pw_below_drewN | apply below_drew1 | refine below_set ?_ GE28.out) | exact HB.out)⟩⟩
  case round =>
    clear H'
    try clear c1
    try clear p2
    obtain ⟨x8_1, rfl, HA, HK1, BK28, HB⟩ := hrel
    cases gk with
    | zero => exact absurd HA.out (by simp [slices_IndexFunc_at_impl_Ledger_card_1.l0])
    | succ k1 =>
      have H := HA.out
      clear HA
      simp only [slices_IndexFunc_at_impl_Ledger_card_1.l0] at H
      by_cases c3 : x8_1 < (l0.length : Int)
      · rw [if_pos c3] at H
        have c3b0 : decide (x8_1 < (l0.length : Int)) = true := decide_eq_true c3
        clear c3
        by_cases c4 : 0 ≤ x8_1
        · rw [if_pos c4] at H
          have c4b0 : decide (0 ≤ x8_1) = true := decide_eq_true c4
          clear c4
          by_cases c5 : x8_1 < (l0.length : Int)
          · rw [if_pos c5] at H
            have c5b0 : decide (x8_1 < (l0.length : Int)) = true := decide_eq_true c5
            clear c5
            replace H := Option.bind_eq_some_iff.mp H
            obtain ⟨t263, A60, H⟩ := H
            replace H : (if t263 = true then (some x8_1) else (slices_IndexFunc_at_impl_Ledger_card_1.l0 k1 l0 (l0.length : Int) (wrap64 (x8_1 + 1)) a1_0)) = some r := H
            have A6 := Aside0.mk A60
            clear A60
            by_cases c7 : t263 = true
            · subst c7
              have H1 : (some x8_1) = some r := by rw [if_pos rfl] at H; exact H
              clear H
              have H := H1
              clear H1
              obtain rfl := Option.some.inj H
              have p262 : 0 ≤ (x8_1 : Int) := of_decide_eq_true (by first | (with_reducible assumption) | assumption)
              have q262 : x8_1 < (l0.length : Int) := of_decide_eq_true (by first | (with_reducible assumption) | assumption)
              obtain ⟨ad262, e262, hx262_0, hx262_1, hx262_2, hx262_3⟩ := at_T39 HR0.out x8_1 p262 q262
              cases e262
              replace hx262_0 := (HB.out.cell (World.block_lt_of_cell? w _ hx262_0)).trans hx262_0
              replace hx262_1 := (HB.out.cell (World.block_lt_of_cell? w _ hx262_1)).trans hx262_1
              replace hx262_2 := (HB.out.cell (World.block_lt_of_cell? w _ hx262_2)).trans hx262_2
              replace hx262_3 := (HB.out.cell (World.block_lt_of_cell? w _ hx262_3)).trans hx262_3
              replace p262 := eq_true p262
              replace q262 := eq_true q262
              go_wp2_with (first | (go_at_call 67; (with_reducible refine (impl_Ledger_card_1.calls ((rd_T39 l0 x8_1).f0) ((rd_T39 l0 x8_1).f1) ((rd_T39 l0 x8_1).f2) ((rd_T39 l0 x8_1).f3) gc1_0 a1_0 true _ ?side1 A6.out).mono ?_); (case side1 => exact (by (with_reducible repeat (first | refine blk_drewN ?_ _ | refine blk_drew ?_ | refine blk_alloc ?_ _)); exact BK28.out)); rintro e w8 ⟨rfl, hb⟩; have n0_ := Aside0.mk (blk_below (g := gc1_0) (o := .cells #[.string a1_0] 9 (0, 0)) (by (with_reducible repeat (first | refine blk_drewN ?_ _ | refine blk_drew ?_ | refine blk_alloc ?_ _)); exact BK28.out) hb); have n1_ := Aside0.mk (below_step (by repeat (first | (with_reducible first | exact HB.out | apply below_alloc | apply pw_below_drewN | apply below_drew1 | refine below_set ?_ GE28.out) | exact HB.out)) hb); clear BK28; clear HB; have BK28 := n0_; have HB := n1_; clear n0_ n1_; (try clear hb); (try clear hb2); (try clear hk); (try clear hi)))
              go_ret
              exact ⟨by first | rfl | (simp [errW_none, errW_some] <;> rfl) | (simp [*, errW_none, errW_some] <;> rfl), by repeat (first | (with_reducible first | exact HB.out | apply below_alloc | apply pw_below_drewN | apply below_drew1 | refine below_set ?_ GE28.out) | exact HB.out)⟩
            · replace c7 := Bool.eq_false_iff.mpr c7
              subst c7
              have H1 : (slices_IndexFunc_at_impl_Ledger_card_1.l0 k1 l0 (l0.length : Int) (wrap64 (x8_1 + 1)) a1_0) = some r := by rw [if_neg (show ¬ (false = true) by decide)] at H; exact H
              clear H
              have H := H1
              clear H1
              have H' := Aside0.mk H
              clear H
              have p262 : 0 ≤ (x8_1 : Int) := of_decide_eq_true (by first | (with_reducible assumption) | assumption)
              have q262 : x8_1 < (l0.length : Int) := of_decide_eq_true (by first | (with_reducible assumption) | assumption)
              obtain ⟨ad262, e262, hx262_0, hx262_1, hx262_2, hx262_3⟩ := at_T39 HR0.out x8_1 p262 q262
              cases e262
              replace hx262_0 := (HB.out.cell (World.block_lt_of_cell? w _ hx262_0)).trans hx262_0
              replace hx262_1 := (HB.out.cell (World.block_lt_of_cell? w _ hx262_1)).trans hx262_1
              replace hx262_2 := (HB.out.cell (World.block_lt_of_cell? w _ hx262_2)).trans hx262_2
              replace hx262_3 := (HB.out.cell (World.block_lt_of_cell? w _ hx262_3)).trans hx262_3
              replace p262 := eq_true p262
              replace q262 := eq_true q262
              go_wp2_with (first | (go_at_call 67; (with_reducible refine (impl_Ledger_card_1.calls ((rd_T39 l0 x8_1).f0) ((rd_T39 l0 x8_1).f1) ((rd_T39 l0 x8_1).f2) ((rd_T39 l0 x8_1).f3) gc1_0 a1_0 false _ ?side1 A6.out).mono ?_); (case side1 => exact (by (with_reducible repeat (first | refine blk_drewN ?_ _ | refine blk_drew ?_ | refine blk_alloc ?_ _)); exact BK28.out)); rintro e w9 ⟨rfl, hb⟩; have n0_ := Aside0.mk (blk_below (g := gc1_0) (o := .cells #[.string a1_0] 9 (0, 0)) (by (with_reducible repeat (first | refine blk_drewN ?_ _ | refine blk_drew ?_ | refine blk_alloc ?_ _)); exact BK28.out) hb); have n1_ := Aside0.mk (below_step (by repeat (first | (with_reducible first | exact HB.out | apply below_alloc | apply pw_below_drewN | apply below_drew1 | refine below_set ?_ GE28.out) | exact HB.out)) hb); clear BK28; clear HB; have BK28 := n0_; have HB := n1_; clear n0_ n1_; (try clear hb); (try clear hb2); (try clear hk); (try clear hi)))
              go_roundg k1
              case measure => have := HK1.out; omega
              case rel => exact ⟨(wrap64 (x8_1 + 1)), (by first | rfl | (simp; done) | (simp [*]; done)), H', ⟨by have := HK1.out; omega⟩, ⟨by (with_reducible repeat (first | refine blk_drewN ?_ _ | refine blk_drew ?_ | refine blk_alloc ?_ _)); exact BK28.out⟩, ⟨by repeat (first | (with_reducible first | exact HB.out | apply below_alloc | apply pw_below_drewN | apply below_drew1 | refine below_set ?_ GE28.out) | exact HB.out)⟩⟩
          · rw [if_neg c5] at H
            exact absurd H (by simp)
        · rw [if_neg c4] at H
          exact absurd H (by simp)
      · rw [if_neg c3] at H
        have c3b0 : decide (x8_1 < (l0.length : Int)) = false := decide_eq_false c3
        clear c3
        obtain rfl := Option.some.inj H
        go_wp2
        go_ret
        exact ⟨by first | rfl | (simp [errW_none, errW_some] <;> rfl) | (simp [*, errW_none, errW_some] <;> rfl), by repeat (first | (with_reducible first | exact HB.out | apply below_alloc | apply pw_below_drewN | apply below_drew1 | refine below_set ?_ GE28.out) | exact HB.out)⟩

/-! ### impl_LedgerOf: function 7 -/
/- (*Ledger).card and (*Ledger).do by hand. -/
theorem card_cells {W : World} {base go n cap : Nat} {ok : Nat → Prop} {L : List S39} {i : Nat} (hR : Kd.R k39 39 W base ok (.slice (some ⟨go, 0, none⟩) n cap) L) (h1 : i < n) :
    W.cell? ⟨go, i * 4, none⟩ = some (.string (rd_T39 L (i : Int)).f0) ∧ W.cell? ⟨go, i * 4 + 1, none⟩ = some (.int .i64 (rd_T39 L (i : Int)).f1) ∧ W.cell? ⟨go, i * 4 + 2, none⟩ = some (.int .i64 (rd_T39 L (i : Int)).f2) ∧ W.cell? ⟨go, i * 4 + 3, none⟩ = some (.int .i64 (rd_T39 L (i : Int)).f3) ∧ ∀ j, W.frozen? ⟨go, i * 4 + j, none⟩ = false := by
  obtain ⟨ce, hcl, hM, hcc, hfr⟩ := Kd.R_elem hR z39 (i : Int) (by omega) (by omega)
  obtain rfl := k39_openM hM
  exact ⟨hcc 0 _ rfl, hcc 1 _ rfl, hcc 2 _ rfl, hcc 3 _ rfl, hfr⟩
theorem card_left {W : World} {base go n cap : Nat} {ok : Nat → Prop} {L : List S39} {i : Nat} (hR : Kd.R k39 39 W base ok (.slice (some ⟨go, 0, none⟩) n cap) L) (h1 : i < n) (z : Int) :
    Kd.R k39 39 (W.setCell ⟨go, i * 4 + 1, none⟩ (.int .i64 z)) base ok (.slice (some ⟨go, 0, none⟩) n cap) (L.set i ((fun x : S39 => (⟨x.f0, z, x.f2, x.f3⟩ : S39)) (rd_T39 L (i : Int)))) ∧ W.grownBy (W.setCell ⟨go, i * 4 + 1, none⟩ (.int .i64 z)) (some go) := by
  obtain ⟨ce, hcl, hM, hcc, hfr⟩ := Kd.R_elem hR z39 (i : Int) (by omega) (by omega)
  obtain rfl := k39_openM hM
  exact Kd.R_seg hR (i : Int) (by omega) (by omega) (seg := [.int .i64 z]) (j := 1) hcl hcc (show 2 ≤ 4 from by decide) (x' := (fun x : S39 => (⟨x.f0, z, x.f2, x.f3⟩ : S39)) (rd_T39 L (i : Int))) (k39_mkM _ _ _ _) (fun _ hk => hk)
theorem card_load {W : World} {base go n cap : Nat} {ok : Nat → Prop} {L : List S39} {i : Nat} (hR : Kd.R k39 39 W base ok (.slice (some ⟨go, 0, none⟩) n cap) L) (h1 : i < n) (z : Int) :
    Kd.R k39 39 (W.setCell ⟨go, i * 4 + 2, none⟩ (.int .i64 z)) base ok (.slice (some ⟨go, 0, none⟩) n cap) (L.set i ((fun x : S39 => (⟨x.f0, x.f1, z, x.f3⟩ : S39)) (rd_T39 L (i : Int)))) ∧ W.grownBy (W.setCell ⟨go, i * 4 + 2, none⟩ (.int .i64 z)) (some go) := by
  obtain ⟨ce, hcl, hM, hcc, hfr⟩ := Kd.R_elem hR z39 (i : Int) (by omega) (by omega)
  obtain rfl := k39_openM hM
  exact Kd.R_seg hR (i : Int) (by omega) (by omega) (seg := [.int .i64 z]) (j := 2) hcl hcc (show 3 ≤ 4 from by decide) (x' := (fun x : S39 => (⟨x.f0, x.f1, z, x.f3⟩ : S39)) (rd_T39 L (i : Int))) (k39_mkM _ _ _ _) (fun _ hk => hk)
theorem card_spent {W : World} {base go n cap : Nat} {ok : Nat → Prop} {L : List S39} {i : Nat} (hR : Kd.R k39 39 W base ok (.slice (some ⟨go, 0, none⟩) n cap) L) (h1 : i < n) (z : Int) :
    Kd.R k39 39 (W.setCell ⟨go, i * 4 + 3, none⟩ (.int .i64 z)) base ok (.slice (some ⟨go, 0, none⟩) n cap) (L.set i ((fun x : S39 => (⟨x.f0, x.f1, x.f2, z⟩ : S39)) (rd_T39 L (i : Int)))) ∧ W.grownBy (W.setCell ⟨go, i * 4 + 3, none⟩ (.int .i64 z)) (some go) := by
  obtain ⟨ce, hcl, hM, hcc, hfr⟩ := Kd.R_elem hR z39 (i : Int) (by omega) (by omega)
  obtain rfl := k39_openM hM
  exact Kd.R_seg hR (i : Int) (by omega) (by omega) (seg := [.int .i64 z]) (j := 3) hcl hcc (show 4 ≤ 4 from by decide) (x' := (fun x : S39 => (⟨x.f0, x.f1, x.f2, z⟩ : S39)) (rd_T39 L (i : Int))) (k39_mkM _ _ _ _) (fun _ hk => hk)
def cardQ (w0 : World) (gb : Nat) (uS uR : Value) (lC' : List S39) (i : Nat) (L : List Ass) (e : Ending) (w' : World) : Prop := ∃ (g cap : Nat) (PC' : Nat → Prop), e = .returned (.pointer (some ⟨g, i * 4, none⟩)) ∧ i < lC'.length ∧ Hp w0 (blk gb (.cells #[.slice (some ⟨g, 0, none⟩) lC'.length cap, uS, uR] 31 (0, 0)) :: rowA k39 39 w0.heap.size PC' (.slice (some ⟨g, 0, none⟩) lC'.length cap) lC' :: L) w'
theorem cardQ.out {w0 : World} {gb : Nat} {uS uR : Value} {lC' : List S39} {i : Nat} {L : List Ass} {e : Ending} {w' : World} (h : cardQ w0 gb uS uR lC' i L e w') : ∃ (g cap : Nat) (PC' : Nat → Prop), e = .returned (.pointer (some ⟨g, i * 4, none⟩)) ∧ i < lC'.length ∧ Hp w0 (blk gb (.cells #[.slice (some ⟨g, 0, none⟩) lC'.length cap, uS, uR] 31 (0, 0)) :: rowA k39 39 w0.heap.size PC' (.slice (some ⟨g, 0, none⟩) lC'.length cap) lC' :: L) w' := h
def cardA (lC : List S39) (name : ByteArray) (t : Int) : Option (List S39 × Nat) := if t < 0 then some (lC ++ [⟨name, 0, 0, 0⟩], lC.length) else if t.toNat < lC.length then some (lC, t.toNat) else none
theorem Hp.drewN {w0 W : World} {L : List Ass} (h : Hp w0 L W) (n : Nat) : Hp w0 L (W.drewN n) := h.go (pw_below_drewN (Below.refl _ _) n)
def ld55.T4 : Bool × List (List Nat × List Nat) := (true, [([], []), ([], []), ([1], [1]), ([2], [2]), ([3], [3]), ([], []), ([5], [5]), ([6], [6]), ([4, 7], [4, 7]), ([0, 0, 1, 2, 3, 4, 5, 6, 7, 8], [0]), ([9, 0, 1, 2, 3, 4, 5, 6, 7, 8], [9]), ([10, 8, 8, 0, 1, 2, 3, 4, 5, 6, 7, 8], [8, 10])])
def ld55.B4 : List Nat := [0, 0, 2, 6, 14, 0, 32, 96, 254, 511, 1023, 2047]
theorem ld55.tab4 : rtab .any (opsOf Try.f55 4) = ld55.T4 := by kernel_rfl
theorem ld55.bits4 : waitsOk ld55.T4.2 ld55.B4 = true := by kernel_rfl
def ld26.T2 : Bool × List (List Nat × List Nat) := (true, [([], []), ([0], [0]), ([1], [1]), ([2], [2]), ([], []), ([4], [4]), ([3, 5], [3, 5])])
def ld26.B2 : List Nat := [0, 1, 3, 7, 0, 16, 63]
theorem ld26.tab2 : rtab .any (opsOf Try.f26 2) = ld26.T2 := by kernel_rfl
theorem ld26.bits2 : waitsOk ld26.T2.2 ld26.B2 = true := by kernel_rfl
def ld26.T4 : Bool × List (List Nat × List Nat) := (true, [([], []), ([], []), ([1], [1]), ([2], [2]), ([3], [3]), ([], []), ([5], [5]), ([6], [6]), ([4, 7], [4, 7]), ([0, 0, 1, 2, 3, 4, 5, 6, 7, 8], [0]), ([9, 0, 1, 2, 3, 4, 5, 6, 7, 8], [9]), ([10, 8, 8, 0, 1, 2, 3, 4, 5, 6, 7, 8], [8, 10])])
def ld26.B4 : List Nat := [0, 0, 2, 6, 14, 0, 32, 96, 254, 511, 1023, 2047]
theorem ld26.tab4 : rtab .any (opsOf Try.f26 4) = ld26.T4 := by kernel_rfl
theorem ld26.bits4 : waitsOk ld26.T4.2 ld26.B4 = true := by kernel_rfl
set_option maxHeartbeats 64000000 in
set_option maxRecDepth 100000 in
theorem card_calls (k : Nat) (w0 w : World) (gb : Nat) (uC uS uR : Value) (PC : Nat → Prop) (lC lC' : List S39) (i : Nat) (L : List Ass) (name : ByteArray) (t : Int) (ht : slices_IndexFunc_at_impl_Ledger_card_1.f k lC name = some t) (hl : lC.length ≤ 1000) (hr : cardA lC name t = some (lC', i)) (H : Hp w0 (blk gb (.cells #[uC, uS, uR] 31 (0, 0)) :: rowA k39 39 w0.heap.size (PC) (uC) (lC) :: L) w) :
    Calls Try.prog 55 #[.pointer (some ⟨gb, 0, none⟩), .string name] w (fun e w' => cardQ w0 gb uS uR lC' i L e w') := by
  have hu31 := Try.underlying31
  have hu39 := Try.underlying39
  have hu27 := Try.underlying27
  have S0 := Aside0.mk H
  have HT := Aside0.mk ht
  have HR := Aside0.mk hr
  have HLC := Aside0.mk hl
  clear H ht hr hl
  obtain ⟨A, cA, rfl⟩ := Kd.R_slice (S0.out.row 1 rfl)
  obtain ⟨_, hcA, hC⟩ := Kd.R_reads' (S0.out.row 1 rfl)
  have HC := Aside0.mk hC
  have HCA := Aside0.mk hcA
  clear hC hcA
  go_enter Try.func55, Try.ntmps55
  go_upto_region 1 with (first | (refine box_hp S0.out 3 #[.string name] 9 rfl ?_; intro nb w1 h_; have S1 := Aside0.mk h_; clear h_))
  have zg0 : w1.cell? ⟨gb, 0, none⟩ = some (.slice A lC.length cA) := (S1.out.cell 1 rfl 0).trans rfl
  go_upto_if 13 with (first | (go_at_call 66; (with_reducible refine (slices_IndexFunc_at_impl_Ledger_card_1.calls k A cA lC nb name t _ (Kd.R_reads' (S1.out.row 2 rfl)).2.2 HCA.out (S1.out.get 0 rfl) HT.out).mono ?_); rintro e w2 ⟨rfl, hb2⟩; have S2 := Aside0.mk (S1.out.go hb2); clear hb2))
  clear zg0 S0
  by_cases t0 : t < 0
  · have t0b : decide (t < 0) = true := decide_eq_true t0
    have hr := HR.out
    unfold cardA at hr
    rw [if_pos t0] at hr
    simp only [Option.some.injEq, Prod.mk.injEq] at hr
    obtain ⟨rfl, rfl⟩ := hr
    clear t0 HR
    have zg0 : w2.cell? ⟨gb, 0, none⟩ = some (.slice A lC.length cA) := (S2.out.cell 1 rfl 0).trans rfl
    rw [t0b]
    go_upto_region 4 with (fail)
    try go_wp2
    have HD := Aside0.mk S2.out.drew
    clear S2 S1 zg0
    refine start_ (n := 12) (S := fun w' => w'.cell? ⟨gb, 0, none⟩ = some (.slice A lC.length cA) ∧ w'.cell? ⟨nb, 0, none⟩ = some (.string name)) (ds := [11]) (xM 12 0) (by kernel_rfl) rfl rfl ⟨(HD.out.cell 1 rfl 0).trans rfl, (HD.out.cell 0 rfl 0).trans rfl⟩ (fun hHeld => ?_)
    refine with_tabW ld55.tab4 ld55.bits4 (fun HT_ HW_ => ?_)
    generalize w2.drew = wd_ at HD hHeld ⊢
    refine xP 0 19 (xM 12 1) HT_ ?_
    refine xP 1 20 (xM 12 3) HT_ ?_
    refine xP 2 21 (xM 12 7) HT_ ?_
    refine xP 3 22 (xM 12 15) HT_ ?_
    refine xQ 4 23 (xM 12 31) HT_ HW_ hHeld ?_
    refine xQ 5 24 (xM 12 63) HT_ HW_ hHeld ?_
    refine xP 6 25 (xM 12 127) HT_ ?_
    refine one_ (i := 7) (N := some 26) (xM 12 255) rfl rfl (one_of HT_.out (by kernel_rfl)) (by decide) (fun K hK => ?_)
    refine event_step (w1 := wd_.alloc (.cells #[.string name, .int .i64 0, .int .i64 0, .int .i64 0] 39 (0, 0))) (v := .slice (some ⟨wd_.heap.size, 0, none⟩) 1 1) (by rfl) (by first | (go_simp; done) | (go_simp; rfl)) ?_
    have SA_ := HD.out.go (below_alloc (Below.refl _ _) (.cells #[.string name, .int .i64 0, .int .i64 0, .int .i64 0] 39 (0, 0)))
    refine hK.out _ _ ⟨(SA_.cell 1 rfl 0).trans rfl, (SA_.cell 0 rfl 0).trans rfl⟩ (fun hHeld => ?_)
    clear SA_
    clear hK K
    refine norm_ (a' := ?_) ?_ ?_
    rotate_left
    · show Act.put _ (some 26) _ = _
      simp only [Act.put, List.setIfInBounds_toArray, List.set_cons_zero, List.set_cons_succ, i64_w, i32_w]
      rfl
    refine one_ (i := 8) (N := some 27) (xM 12 511) rfl rfl (one_of HT_.out (by kernel_rfl)) (by decide) (fun K hK => ?_)
    refine Kd.R_append_step k39 (w0 := w0) w0.heap.size (by rfl) (.tmp 23) (.tmp 26) 27 39 (.agg #[.string ⟨#[]⟩, .int .i64 0, .int .i64 0, .int .i64 0]) 40 rfl hu27 (by kernel_rfl) rfl (by decide) (by decide) (.slice A lC.length cA) lC (⟨name, 0, 0, 0⟩ : S39) [.string name, .int .i64 0, .int .i64 0, .int .i64 0] (fun k_ => PC k_ ∨ wd_.heap.size ≤ k_) (fun _ => False) rfl rfl (k39_mkM _ _ _ (⟨name, 0, 0, 0⟩ : S39)) (fun _ hk => hk.elim) (fun _ hk => .inr hk) (Kd.R_mono (HD.out.row 2 rfl) (fun _ hk => .inl hk)) HD.out.below HD.out.below.size (by have := HLC.out; omega) ?_
    intro v10 w10 hr10 hb10 hg10 hat10
    obtain ⟨g, cap, hv, _, _, _⟩ := Kd.R_form hr10 (by rw [List.length_append]; simp)
    rw [show (lC ++ [(⟨name, 0, 0, 0⟩ : S39)]).length = lC.length + 1 from by simp] at hv
    subst hv
    have S10 := Aside0.mk (HD.out.append 2 rfl hr10 hb10 hg10)
    clear hr10 hb10 hg10 hat10
    refine hK.out _ _ ⟨(S10.out.cell 1 rfl 0).trans rfl, (S10.out.cell 0 rfl 0).trans rfl⟩ (fun hHeld => ?_)
    clear hK K
    refine norm_ (a' := ?_) ?_ ?_
    rotate_left
    · show Act.put _ (some 27) _ = _
      simp only [Act.put, List.setIfInBounds_toArray, List.set_cons_zero, List.set_cons_succ, i64_w, i32_w]
      rfl
    refine xP 9 28 (xM 12 1023) HT_ ?_
    refine xP 10 29 (xM 12 2047) HT_ ?_
    refine last_ (i := 11) (N := none) (xM 12 4095) rfl rfl (one_of HT_.out (by kernel_rfl)) (by decide) (fun K hK => ?_)
    have q0_ := (S10.out.cell 1 rfl 0).trans rfl
    have p0_ := S10.out.froz 1 rfl 0
    refine skip_ (w1 := w10.setCell ⟨gb, 0, none⟩ (.slice (some ⟨g, 0, none⟩) (lC.length + 1) cap)) ?cw ?cn ?cr ?_
    case cn => rfl
    case cw => rfl
    case cr =>
      first | (go_simp; done) | (go_simp; rfl)
    have S11 := Aside0.mk (S10.out.put 1 0 (.slice (some ⟨g, 0, none⟩) (lC.length + 1) cap) rfl rfl)
    generalize w10.setCell ⟨gb, 0, none⟩ (.slice (some ⟨g, 0, none⟩) (lC.length + 1) cap) = w11 at S11 ⊢
    clear q0_ p0_
    refine hK.out _ _ ?_
    clear hK K S10
    refine done_ (done_of HT_.out (by kernel_rfl)) ?_
    clear HT_ HW_
    have zg1 : w11.cell? ⟨gb, 0, none⟩ = some (.slice (some ⟨g, 0, none⟩) (lC.length + 1) cap) := (S11.out.cell 1 rfl 0).trans rfl
    have hp0 : (0 ≤ (lC.length : Int)) = True := eq_true (by omega)
    have hp1 : ((lC.length : Int) < ((lC.length + 1 : Nat) : Int)) = True := eq_true (by omega)
    have hp2 : (lC.length < lC.length + 1) = True := eq_true (by omega)
    have hp3 : ((lC.length : Int) < (lC.length : Int) + 1) = True := eq_true (by omega)
    go_wp2
    go_ret
    refine ⟨g, cap, (fun k => (PC k ∨ wd_.heap.size ≤ k) ∧ k < w10.heap.size), rfl, by simp, ?_⟩
    rw [show (lC ++ [(⟨name, 0, 0, 0⟩ : S39)]).length = lC.length + 1 from by simp]
    exact S11.out.tail
  · have t0b : decide (t < 0) = false := decide_eq_false t0
    have hr := HR.out
    unfold cardA at hr
    rw [if_neg t0] at hr
    by_cases t1 : t.toNat < lC.length
    rotate_left
    · rw [if_neg t1] at hr; cases hr
    rw [if_pos t1] at hr
    simp only [Option.some.injEq, Prod.mk.injEq] at hr
    obtain ⟨rfl, rfl⟩ := hr
    obtain ⟨j, rfl⟩ := Int.eq_ofNat_of_zero_le (show 0 ≤ t by omega)
    rw [Int.toNat_natCast] at t1
    obtain ⟨g, cap, e, _, _, _⟩ := Kd.R_form (S2.out.row 2 rfl) (by omega)
    injection e with e1 _ e2
    subst e1
    subst e2
    have HJ := Aside0.mk t1
    have zg1 : w2.cell? ⟨gb, 0, none⟩ = some (.slice (some ⟨g, 0, none⟩) lC.length cA) := (S2.out.cell 1 rfl 0).trans rfl
    have hp0 : (0 ≤ (j : Int)) = True := eq_true (by omega)
    have hp1 : ((j : Int) < (lC.length : Int)) = True := eq_true (by omega)
    have hp2 : (j < lC.length) = True := eq_true t1
    clear t0 t1 HR
    rw [t0b]
    go_wp2
    go_ret
    exact ⟨g, cA, PC, rfl, HJ.out, S2.out.tail⟩
def ld26.T8 : Bool × List (List Nat × List Nat) := (true, [([], []), ([0], [0]), ([1], [1]), ([2], [2]), ([], []), ([4], [4]), ([3, 5], [3, 5]), ([0, 0, 1, 2, 3, 4, 5, 6], [0]), ([7, 0, 1, 2, 3, 4, 5, 6], [7]), ([8, 6, 0, 1, 2, 3, 4, 5, 6], [6, 8])])
def ld26.B8 : List Nat := [0, 1, 3, 7, 0, 16, 63, 127, 255, 511]
theorem ld26.tab8 : rtab .any (opsOf Try.f26 8) = ld26.T8 := by kernel_rfl
theorem ld26.bits8 : waitsOk ld26.T8.2 ld26.B8 = true := by kernel_rfl
def ld26.T9 : Bool × List (List Nat × List Nat) := (true, [([], []), ([0], [0]), ([1], [1]), ([2], [2]), ([], []), ([4], [4]), ([3, 5], [3, 5]), ([0, 0, 1, 2, 3, 4, 5, 6], [0]), ([7, 0, 1, 2, 3, 4, 5, 6], [7]), ([8, 6, 0, 1, 2, 3, 4, 5, 6], [6, 8])])
def ld26.B9 : List Nat := [0, 1, 3, 7, 0, 16, 63, 127, 255, 511]
theorem ld26.tab9 : rtab .any (opsOf Try.f26 9) = ld26.T9 := by kernel_rfl
theorem ld26.bits9 : waitsOk ld26.T9.2 ld26.B9 = true := by kernel_rfl
def ld26.T11 : Bool × List (List Nat × List Nat) := (true, [([], []), ([0], [0]), ([], []), ([2], [2]), ([3], [3]), ([4], [4]), ([1, 5], [1, 5])])
def ld26.B11 : List Nat := [0, 1, 0, 4, 12, 28, 63]
theorem ld26.tab11 : rtab .any (opsOf Try.f26 11) = ld26.T11 := by kernel_rfl
theorem ld26.bits11 : waitsOk ld26.T11.2 ld26.B11 = true := by kernel_rfl
def ld26.T13 : Bool × List (List Nat × List Nat) := (true, [([], []), ([0], [0]), ([1], [1]), ([2], [2]), ([], []), ([4], [4]), ([3, 5], [3, 5]), ([0, 0, 1, 2, 3, 4, 5, 6], [0]), ([7, 0, 1, 2, 3, 4, 5, 6], [7]), ([8, 6, 0, 1, 2, 3, 4, 5, 6], [6, 8])])
def ld26.B13 : List Nat := [0, 1, 3, 7, 0, 16, 63, 127, 255, 511]
theorem ld26.tab13 : rtab .any (opsOf Try.f26 13) = ld26.T13 := by kernel_rfl
theorem ld26.bits13 : waitsOk ld26.T13.2 ld26.B13 = true := by kernel_rfl
def ld26.T14 : Bool × List (List Nat × List Nat) := (true, [([], []), ([0], [0]), ([1], [1]), ([2], [2]), ([], []), ([4], [4]), ([3, 5], [3, 5]), ([0, 0, 1, 2, 3, 4, 5, 6], [0]), ([7, 0, 1, 2, 3, 4, 5, 6], [7]), ([8, 6, 0, 1, 2, 3, 4, 5, 6], [6, 8])])
def ld26.B14 : List Nat := [0, 1, 3, 7, 0, 16, 63, 127, 255, 511]
theorem ld26.tab14 : rtab .any (opsOf Try.f26 14) = ld26.T14 := by kernel_rfl
theorem ld26.bits14 : waitsOk ld26.T14.2 ld26.B14 = true := by kernel_rfl
def doQ (w0 : World) (gb : Nat) (b : Bool) (lC' : List S39) (lS' : List ByteArray) (uR : Value) (L : List Ass) (e : Ending) (w' : World) : Prop := ∃ (uC uS : Value) (PC PS : Nat → Prop), e = .returned (.bool b) ∧ Hp w0 (blk gb (.cells #[uC, uS, uR] 31 (0, 0)) :: rowA k39 39 w0.heap.size PC uC lC' :: rowA Kd.string 9 w0.heap.size PS uS lS' :: L) w'
def doF (k : Nat) (lC : List S39) (lS : List ByteArray) (e : S35) : Option (Bool × List S39 × List ByteArray) :=
  if e.f3 = 3 then (slices_Contains_string_string.f k lS e.f4).bind fun t => if t = true then some (false, lC, lS) else some (true, lC, lS ++ [e.f4])
  else (slices_IndexFunc_at_impl_Ledger_card_1.f k lC e.f4).bind fun t => (cardA lC e.f4 t).bind fun p => if e.f3 = 1 then some (true, (p.1.set p.2 ⟨(rd_T39 p.1 (p.2 : Int)).f0, wrap64 ((rd_T39 p.1 (p.2 : Int)).f1 + e.f5), wrap64 ((rd_T39 p.1 (p.2 : Int)).f2 + e.f5), (rd_T39 p.1 (p.2 : Int)).f3⟩), lS)
    else if e.f5 > (rd_T39 p.1 (p.2 : Int)).f1 then some (false, p.1, lS) else some (true, (p.1.set p.2 ⟨(rd_T39 p.1 (p.2 : Int)).f0, wrap64 ((rd_T39 p.1 (p.2 : Int)).f1 - e.f5), (rd_T39 p.1 (p.2 : Int)).f2, wrap64 ((rd_T39 p.1 (p.2 : Int)).f3 + e.f5)⟩), lS)
theorem doF.mono : ∀ lC lS e k, LeO (doF k lC lS e) (doF (k + 1) lC lS e) := fun lC lS e k =>
  LeO.ite (LeO.bind (slices_Contains_string_string.mono _ _ _) (fun _ => LeO.refl _)) (LeO.bind (slices_IndexFunc_at_impl_Ledger_card_1.mono _ _ _) (fun _ => LeO.refl _))
theorem rd_set {l : List S39} {i : Nat} (h : i < l.length) (x : S39) : rd_T39 (l.set i x) (i : Int) = x := by
  unfold rd_T39
  rw [Int.toNat_natCast, List.getD_eq_getElem?_getD, List.getElem?_set_self h]
  rfl
set_option maxHeartbeats 64000000 in
set_option maxRecDepth 100000 in
theorem do_calls (k : Nat) (w0 w : World) (gb : Nat) (uC uS uR : Value) (PC PS : Nat → Prop) (lC lC' : List S39) (lS lS' : List ByteArray) (L : List Ass) (ev : S35) (b : Bool) (h : doF k lC lS ev = some (b, lC', lS')) (hlC : lC.length ≤ 1000) (hlS : lS.length ≤ 1000) (H : Hp w0 (blk gb (.cells #[uC, uS, uR] 31 (0, 0)) :: rowA k39 39 w0.heap.size (PC) (uC) (lC) :: rowA Kd.string 9 w0.heap.size (PS) (uS) (lS) :: L) w) :
    Calls Try.prog 26 #[.pointer (some ⟨gb, 0, none⟩), .agg #[.int .i64 ev.f0, .int .i64 ev.f1, .int .i64 ev.f2, .int .i64 ev.f3, .string ev.f4, .int .i64 ev.f5]] w (fun e w' => doQ w0 gb b lC' lS' uR L e w') := by
  have hu31 := Try.underlying31
  have hu35 := Try.underlying35
  have hu39 := Try.underlying39
  have hu28 := Try.underlying28
  have S0 := Aside0.mk H
  have HLC := Aside0.mk hlC
  have HLS := Aside0.mk hlS
  clear H hlC hlS
  unfold doF at h
  go_enter Try.func26, Try.ntmps26
  go_upto_region 1 with (first | (refine box_hp S0.out 3 #[.int .i64 ev.f0, .int .i64 ev.f1, .int .i64 ev.f2, .int .i64 ev.f3, .string ev.f4, .int .i64 ev.f5] 35 rfl ?_; intro eb w1 h_; have S1 := Aside0.mk h_; clear h_))
  have ze3 : w1.cell? ⟨eb, 3, none⟩ = some (.int .i64 ev.f3) := (S1.out.cell 0 rfl 3).trans rfl
  have ze4 : w1.cell? ⟨eb, 4, none⟩ = some (.string ev.f4) := (S1.out.cell 0 rfl 4).trans rfl
  have ze5 : w1.cell? ⟨eb, 5, none⟩ = some (.int .i64 ev.f5) := (S1.out.cell 0 rfl 5).trans rfl
  clear S0
  by_cases hk : ev.f3 = 3
  · have hkb : (ev.f3 == 3) = true := beq_iff_eq.mpr hk
    rw [if_pos hk] at h
    obtain ⟨t, ht, h2⟩ := Option.bind_eq_some_iff.mp h
    have HT := Aside0.mk ht
    have H2 := Aside0.mk h2
    clear h ht h2 hk
    obtain ⟨A, cS, rfl⟩ := Kd.R_slice (S1.out.row 3 rfl)
    have HCS := Aside0.mk (Kd.R_reads' (S1.out.row 3 rfl)).2.1
    go_upto_region 2 with (fail)
    try go_wp2
    have HD := Aside0.mk S1.out.drew
    clear S1 ze3 ze4 ze5
    refine start_ (n := 7) (S := fun w' => w'.cell? ⟨gb, 1, none⟩ = some (.slice A lS.length cS) ∧ w'.cell? ⟨eb, 4, none⟩ = some (.string ev.f4)) (ds := []) (xM 7 0) (by kernel_rfl) rfl rfl ⟨(HD.out.cell 1 rfl 1).trans rfl, (HD.out.cell 0 rfl 4).trans rfl⟩ (fun hHeld => ?_)
    refine with_tabW ld26.tab2 ld26.bits2 (fun HT_ HW_ => ?_)
    generalize w1.drew = wd_ at HD hHeld ⊢
    refine xP 0 9 (xM 7 1) HT_ ?_
    refine xP 1 10 (xM 7 3) HT_ ?_
    refine xP 2 11 (xM 7 7) HT_ ?_
    refine xQ 3 12 (xM 7 15) HT_ HW_ hHeld ?_
    refine xP 4 13 (xM 7 31) HT_ ?_
    refine xQ 5 14 (xM 7 63) HT_ HW_ hHeld ?_
    refine one_ (i := 6) (N := some 15) (xM 7 127) rfl rfl (one_of HT_.out (by kernel_rfl)) (by decide) (fun K hK => ?_)
    refine goes_ Try.func54 (by kernel_rfl) rfl #[.slice A lS.length cS, .string ev.f4] (by rfl) rfl rfl (by (try simp only [List.map_toArray, List.map_cons, List.map_nil]); first | done | rfl) ?_
    with_reducible refine (slices_Contains_string_string.calls k A cS lS ev.f4 t _ (Kd.R_reads' (HD.out.row 3 rfl)).2.2 HCS.out HT.out).mono ?_
    rintro e w5 ⟨rfl, nd_, rfl⟩
    refine ⟨_, rfl, ?_⟩
    have S5 := Aside0.mk (HD.out.drewN nd_)
    generalize wd_.drewN nd_ = w5 at S5 ⊢
    refine hK.out _ _ ⟨(S5.out.cell 1 rfl 1).trans rfl, (S5.out.cell 0 rfl 4).trans rfl⟩ (fun hHeld => ?_)
    clear hK K
    refine norm_ (a' := ?_) ?_ ?_
    rotate_left
    · show Act.put _ (some 15) _ = _
      simp only [Act.put, List.setIfInBounds_toArray, List.set_cons_zero, List.set_cons_succ, i64_w, i32_w]
      rfl
    refine done_ (done_of HT_.out (by kernel_rfl)) ?_
    clear HT_ HW_ hHeld HD
    cases t with
    | true =>
      have h3 := H2.out
      rw [if_pos rfl] at h3
      simp only [Option.some.injEq, Prod.mk.injEq] at h3
      obtain ⟨rfl, rfl, rfl⟩ := h3
      clear H2
      go_wp2
      go_ret
      exact ⟨uC, _, PC, PS, rfl, S5.out.tail⟩
    | false =>
      have h3 := H2.out
      rw [if_neg (by decide)] at h3
      simp only [Option.some.injEq, Prod.mk.injEq] at h3
      obtain ⟨rfl, rfl, rfl⟩ := h3
      clear H2
      go_upto_region 4 with (fail)
      try go_wp2
      have HD := Aside0.mk S5.out.drew
      clear S5
      refine start_ (n := 12) (S := fun w' => w'.cell? ⟨gb, 1, none⟩ = some (.slice A lS.length cS) ∧ w'.cell? ⟨eb, 4, none⟩ = some (.string ev.f4)) (ds := [11]) (xM 12 0) (by kernel_rfl) rfl rfl ⟨(HD.out.cell 1 rfl 1).trans rfl, (HD.out.cell 0 rfl 4).trans rfl⟩ (fun hHeld => ?_)
      refine with_tabW ld26.tab4 ld26.bits4 (fun HT_ HW_ => ?_)
      generalize w5.drew = wd_ at HD hHeld ⊢
      refine xP 0 16 (xM 12 1) HT_ ?_
      refine xP 1 17 (xM 12 3) HT_ ?_
      refine xP 2 18 (xM 12 7) HT_ ?_
      refine xP 3 19 (xM 12 15) HT_ ?_
      refine xQ 4 20 (xM 12 31) HT_ HW_ hHeld ?_
      refine xP 5 21 (xM 12 63) HT_ ?_
      refine xQ 6 22 (xM 12 127) HT_ HW_ hHeld ?_
      refine one_ (i := 7) (N := some 23) (xM 12 255) rfl rfl (one_of HT_.out (by kernel_rfl)) (by decide) (fun K hK => ?_)
      refine event_step (w1 := wd_.alloc (.cells #[.string ev.f4] 9 (0, 0))) (v := .slice (some ⟨wd_.heap.size, 0, none⟩) 1 1) (by rfl) (by first | (go_simp; done) | (go_simp; rfl)) ?_
      have SA_ := HD.out.go (below_alloc (Below.refl _ _) (.cells #[.string ev.f4] 9 (0, 0)))
      refine hK.out _ _ ⟨(SA_.cell 1 rfl 1).trans rfl, (SA_.cell 0 rfl 4).trans rfl⟩ (fun hHeld => ?_)
      clear SA_
      clear hK K
      refine norm_ (a' := ?_) ?_ ?_
      rotate_left
      · show Act.put _ (some 23) _ = _
        simp only [Act.put, List.setIfInBounds_toArray, List.set_cons_zero, List.set_cons_succ, i64_w, i32_w]
        rfl
      refine one_ (i := 8) (N := some 24) (xM 12 511) rfl rfl (one_of HT_.out (by kernel_rfl)) (by decide) (fun K hK => ?_)
      refine Kd.R_append_step Kd.string (w0 := w0) w0.heap.size (by rfl) (.tmp 20) (.tmp 23) 28 9 (.string ⟨#[]⟩) 16 rfl hu28 (by kernel_rfl) rfl (by decide) (by decide) (.slice A lS.length cS) lS ev.f4 [.string ev.f4] (fun k_ => PS k_ ∨ wd_.heap.size ≤ k_) (fun _ => False) rfl rfl rfl (fun _ hk => hk.elim) (fun _ hk => .inr hk) (Kd.R_mono (HD.out.row 3 rfl) (fun _ hk => .inl hk)) HD.out.below HD.out.below.size (by have := HLS.out; omega) ?_
      intro v10 w10 hr10 hb10 hg10 hat10
      obtain ⟨g, cap, hv, _, _, _⟩ := Kd.R_form hr10 (by rw [List.length_append]; simp)
      rw [show (lS ++ [ev.f4]).length = lS.length + 1 from by simp] at hv
      subst hv
      have S10 := Aside0.mk (HD.out.append 3 rfl hr10 hb10 hg10)
      clear hr10 hb10 hg10 hat10
      refine hK.out _ _ ⟨(S10.out.cell 1 rfl 1).trans rfl, (S10.out.cell 0 rfl 4).trans rfl⟩ (fun hHeld => ?_)
      clear hK K
      refine norm_ (a' := ?_) ?_ ?_
      rotate_left
      · show Act.put _ (some 24) _ = _
        simp only [Act.put, List.setIfInBounds_toArray, List.set_cons_zero, List.set_cons_succ, i64_w, i32_w]
        rfl
      refine xP 9 25 (xM 12 1023) HT_ ?_
      refine xP 10 26 (xM 12 2047) HT_ ?_
      refine last_ (i := 11) (N := none) (xM 12 4095) rfl rfl (one_of HT_.out (by kernel_rfl)) (by decide) (fun K hK => ?_)
      have q0_ := (S10.out.cell 1 rfl 1).trans rfl
      have p0_ := S10.out.froz 1 rfl 1
      refine skip_ (w1 := w10.setCell ⟨gb, 1, none⟩ (.slice (some ⟨g, 0, none⟩) (lS.length + 1) cap)) ?cw ?cn ?cr ?_
      case cn => rfl
      case cw => rfl
      case cr =>
        first | (go_simp; done) | (go_simp; rfl)
      have S11 := Aside0.mk (S10.out.put 1 1 (.slice (some ⟨g, 0, none⟩) (lS.length + 1) cap) rfl rfl)
      generalize w10.setCell ⟨gb, 1, none⟩ (.slice (some ⟨g, 0, none⟩) (lS.length + 1) cap) = w11 at S11 ⊢
      clear q0_ p0_
      refine hK.out _ _ ?_
      clear hK K
      refine done_ (done_of HT_.out (by kernel_rfl)) ?_
      clear HT_ HW_
      go_wp2
      go_ret
      exact ⟨uC, _, PC, (fun k => (PS k ∨ wd_.heap.size ≤ k) ∧ k < w10.heap.size), rfl, S11.out.tail⟩
  have hkb : (ev.f3 == 3) = false := beq_eq_false_iff_ne.mpr hk
  rw [if_neg hk] at h
  obtain ⟨t, ht, h2⟩ := Option.bind_eq_some_iff.mp h
  obtain ⟨⟨l2, i⟩, hc, h3⟩ := Option.bind_eq_some_iff.mp h2
  have HT := Aside0.mk ht
  have HC := Aside0.mk hc
  have H3 := Aside0.mk h3
  clear h ht hc h2 h3 hk
  go_upto_region 7 with (first | (go_at_call 55; with_reducible refine (card_calls k w0 w1 gb uC uS uR PC lC l2 i _ ev.f4 t HT.out HLC.out HC.out S1.out.rot).mono ?_; intro e w5 hq_; obtain ⟨g, cap, PC', rfl, hi_, h_⟩ := hq_.out; clear hq_; have S5 := Aside0.mk h_.back; have HI := Aside0.mk hi_; clear h_ hi_))
  clear S1 ze3 ze4 ze5
  have ze3 : w5.cell? ⟨eb, 3, none⟩ = some (.int .i64 ev.f3) := (S5.out.cell 0 rfl 3).trans rfl
  have ze4 : w5.cell? ⟨eb, 4, none⟩ = some (.string ev.f4) := (S5.out.cell 0 rfl 4).trans rfl
  have ze5 : w5.cell? ⟨eb, 5, none⟩ = some (.int .i64 ev.f5) := (S5.out.cell 0 rfl 5).trans rfl
  obtain ⟨cv, hcv⟩ : ∃ cv, cv = rd_T39 l2 (i : Int) := ⟨_, rfl⟩
  have HCV := Aside0.mk hcv
  clear hcv
  by_cases k1 : ev.f3 = 1
  · have k1b : (ev.f3 == 1) = true := beq_iff_eq.mpr k1
    have h4 := H3.out
    rw [if_pos k1] at h4
    simp only [Option.some.injEq, Prod.mk.injEq] at h4
    obtain ⟨rfl, rfl, rfl⟩ := h4
    clear k1 H3
    go_upto_region 8 with (fail)
    try go_wp2
    have HD := Aside0.mk S5.out.drew
    clear S5 ze3 ze4 ze5
    have HI8 := HI
    have HI9 := HI
    refine start_ (n := 10) (S := fun w' => w'.cell? ⟨g, i * 4 + 2, none⟩ = some (.int .i64 cv.f2) ∧ w'.cell? ⟨eb, 5, none⟩ = some (.int .i64 ev.f5)) (ds := [9]) (xM 10 0) (by kernel_rfl) rfl rfl ⟨(card_cells (HD.out.row 2 rfl) HI.out).2.2.1.trans (by rw [HCV.out]), (HD.out.cell 0 rfl 5).trans rfl⟩ (fun hHeld => ?_)
    refine with_tabW ld26.tab8 ld26.bits8 (fun HT_ HW_ => ?_)
    generalize w5.drew = wd_ at HD hHeld ⊢
    refine xP 0 34 (xM 10 1) HT_ ?_
    refine xP 1 35 (xM 10 3) HT_ ?_
    refine xP 2 36 (xM 10 7) HT_ ?_
    refine xQ 3 37 (xM 10 15) HT_ HW_ hHeld ?_
    refine xP 4 38 (xM 10 31) HT_ ?_
    refine xQ 5 39 (xM 10 63) HT_ HW_ hHeld ?_
    refine xP 6 40 (xM 10 127) HT_ ?_
    refine xP 7 41 (xM 10 255) HT_ ?_
    refine xP 8 42 (xM 10 511) HT_ ?_
    refine last_ (i := 9) (N := none) (xM 10 1023) rfl rfl (one_of HT_.out (by kernel_rfl)) (by decide) (fun K hK => ?_)
    have q0_ : wd_.cell? ⟨g, i * 4 + 2, none⟩ = some (.int .i64 cv.f2) := (card_cells (HD.out.row 2 rfl) HI.out).2.2.1.trans (by rw [HCV.out])
    have p0_ := (card_cells (HD.out.row 2 rfl) HI8.out).2.2.2.2 2
    refine skip_ (w1 := wd_.setCell ⟨g, i * 4 + 2, none⟩ (.int .i64 (wrap64 (cv.f2 + ev.f5)))) ?cw ?cn ?cr ?_
    case cn => rfl
    case cw => rfl
    case cr =>
      first | (go_simp; done) | (go_simp; rfl)
    have S6 := Aside0.mk (HD.out.rowset 2 rfl (card_load (HD.out.row 2 rfl) HI8.out (wrap64 (cv.f2 + ev.f5))).1 (below_set HD.out.below (HD.out.dom 2 _ rfl g ((HD.out.row 2 rfl).1 g rfl)).1) (card_load (HD.out.row 2 rfl) HI8.out (wrap64 (cv.f2 + ev.f5))).2)
    generalize wd_.setCell ⟨g, i * 4 + 2, none⟩ (.int .i64 (wrap64 (cv.f2 + ev.f5))) = w6 at S6 ⊢
    clear q0_ p0_
    refine hK.out _ _ ?_
    clear hK K
    refine done_ (done_of HT_.out (by kernel_rfl)) ?_
    clear HT_ HW_
    have S7 : Aside0 (Hp w0 (blk eb (.cells #[.int .i64 ev.f0, .int .i64 ev.f1, .int .i64 ev.f2, .int .i64 ev.f3, .string ev.f4, .int .i64 ev.f5] 35 (0, 0)) :: blk gb (.cells #[(.slice (some ⟨g, 0, none⟩) l2.length cap), uS, uR] 31 (0, 0)) :: rowA k39 39 w0.heap.size (PC') ((.slice (some ⟨g, 0, none⟩) l2.length cap)) (l2.set i ⟨cv.f0, cv.f1, wrap64 (cv.f2 + ev.f5), cv.f3⟩) :: rowA Kd.string 9 w0.heap.size (PS) (uS) (lS) :: L) w6) := ⟨by
      have h_ := S6.out
      simp only [rd_set HI.out, List.set_set, ← HCV.out] at h_
      exact h_⟩
    clear S6
    clear HD
    go_upto_region 9 with (fail)
    try go_wp2
    have HD := Aside0.mk S7.out.drew
    clear S7
    refine start_ (n := 10) (S := fun w' => w'.cell? ⟨g, i * 4 + 1, none⟩ = some (.int .i64 cv.f1) ∧ w'.cell? ⟨eb, 5, none⟩ = some (.int .i64 ev.f5)) (ds := [9]) (xM 10 0) (by kernel_rfl) rfl rfl ⟨(card_cells (HD.out.row 2 rfl) HI.out).2.1.trans (by rw [rd_set HI.out]), (HD.out.cell 0 rfl 5).trans rfl⟩ (fun hHeld => ?_)
    refine with_tabW ld26.tab9 ld26.bits9 (fun HT_ HW_ => ?_)
    generalize w6.drew = wd_ at HD hHeld ⊢
    refine xP 0 43 (xM 10 1) HT_ ?_
    refine xP 1 44 (xM 10 3) HT_ ?_
    refine xP 2 45 (xM 10 7) HT_ ?_
    refine xQ 3 46 (xM 10 15) HT_ HW_ hHeld ?_
    refine xP 4 47 (xM 10 31) HT_ ?_
    refine xQ 5 48 (xM 10 63) HT_ HW_ hHeld ?_
    refine xP 6 49 (xM 10 127) HT_ ?_
    refine xP 7 50 (xM 10 255) HT_ ?_
    refine xP 8 51 (xM 10 511) HT_ ?_
    refine last_ (i := 9) (N := none) (xM 10 1023) rfl rfl (one_of HT_.out (by kernel_rfl)) (by decide) (fun K hK => ?_)
    have q0_ : wd_.cell? ⟨g, i * 4 + 1, none⟩ = some (.int .i64 cv.f1) := (card_cells (HD.out.row 2 rfl) HI.out).2.1.trans (by rw [rd_set HI.out])
    have p0_ := (card_cells (HD.out.row 2 rfl) HI9.out).2.2.2.2 1
    refine skip_ (w1 := wd_.setCell ⟨g, i * 4 + 1, none⟩ (.int .i64 (wrap64 (cv.f1 + ev.f5)))) ?cw ?cn ?cr ?_
    case cn => rfl
    case cw => rfl
    case cr =>
      first | (go_simp; done) | (go_simp; rfl)
    have S8 := Aside0.mk (HD.out.rowset 2 rfl (card_left (HD.out.row 2 rfl) HI9.out (wrap64 (cv.f1 + ev.f5))).1 (below_set HD.out.below (HD.out.dom 2 _ rfl g ((HD.out.row 2 rfl).1 g rfl)).1) (card_left (HD.out.row 2 rfl) HI9.out (wrap64 (cv.f1 + ev.f5))).2)
    generalize wd_.setCell ⟨g, i * 4 + 1, none⟩ (.int .i64 (wrap64 (cv.f1 + ev.f5))) = w8 at S8 ⊢
    clear q0_ p0_
    refine hK.out _ _ ?_
    clear hK K
    refine done_ (done_of HT_.out (by kernel_rfl)) ?_
    clear HT_ HW_
    have S9 : Aside0 (Hp w0 (blk eb (.cells #[.int .i64 ev.f0, .int .i64 ev.f1, .int .i64 ev.f2, .int .i64 ev.f3, .string ev.f4, .int .i64 ev.f5] 35 (0, 0)) :: blk gb (.cells #[(.slice (some ⟨g, 0, none⟩) l2.length cap), uS, uR] 31 (0, 0)) :: rowA k39 39 w0.heap.size (PC') ((.slice (some ⟨g, 0, none⟩) l2.length cap)) (l2.set i ⟨cv.f0, wrap64 (cv.f1 + ev.f5), wrap64 (cv.f2 + ev.f5), cv.f3⟩) :: rowA Kd.string 9 w0.heap.size (PS) (uS) (lS) :: L) w8) := ⟨by
      have h_ := S8.out
      simp only [rd_set HI.out, List.set_set, ← HCV.out] at h_
      exact h_⟩
    clear S8
    go_wp2
    go_ret
    have h_ := S9.out.tail
    rw [HCV.out] at h_
    exact ⟨_, uS, PC', PS, rfl, h_⟩
  have k1b : (ev.f3 == 1) = false := beq_eq_false_iff_ne.mpr k1
  have h4 := H3.out
  rw [if_neg k1] at h4
  have H4 := Aside0.mk h4
  clear k1 H3 h4
  go_upto_region 11 with (fail)
  try go_wp2
  have HD := Aside0.mk S5.out.drew
  clear S5 ze3 ze4 ze5
  refine start_ (n := 7) (S := fun w' => w'.cell? ⟨g, i * 4 + 1, none⟩ = some (.int .i64 cv.f1) ∧ w'.cell? ⟨eb, 5, none⟩ = some (.int .i64 ev.f5)) (ds := []) (xM 7 0) (by kernel_rfl) rfl rfl ⟨(card_cells (HD.out.row 2 rfl) HI.out).2.1.trans (by rw [HCV.out]), (HD.out.cell 0 rfl 5).trans rfl⟩ (fun hHeld => ?_)
  refine with_tabW ld26.tab11 ld26.bits11 (fun HT_ HW_ => ?_)
  generalize w5.drew = wd_ at HD hHeld ⊢
  refine xP 0 52 (xM 7 1) HT_ ?_
  refine xQ 1 53 (xM 7 3) HT_ HW_ hHeld ?_
  refine xP 2 54 (xM 7 7) HT_ ?_
  refine xP 3 55 (xM 7 15) HT_ ?_
  refine xP 4 56 (xM 7 31) HT_ ?_
  refine xQ 5 57 (xM 7 63) HT_ HW_ hHeld ?_
  refine xP 6 58 (xM 7 127) HT_ ?_
  refine done_ (done_of HT_.out (by kernel_rfl)) ?_
  clear HT_ HW_ hHeld
  by_cases kq : ev.f5 > cv.f1
  · have kqb : decide (ev.f5 > cv.f1) = true := decide_eq_true kq
    have h4 := H4.out
    rw [← HCV.out, if_pos kq] at h4
    simp only [Option.some.injEq, Prod.mk.injEq] at h4
    obtain ⟨rfl, rfl, rfl⟩ := h4
    clear kq H4
    try rw [kqb]
    go_wp2
    go_ret
    exact ⟨_, uS, PC', PS, rfl, HD.out.tail⟩
  have kqb : decide (ev.f5 > cv.f1) = false := decide_eq_false kq
  have h4 := H4.out
  rw [← HCV.out, if_neg kq] at h4
  simp only [Option.some.injEq, Prod.mk.injEq] at h4
  obtain ⟨rfl, rfl, rfl⟩ := h4
  clear kq H4
  try rw [kqb]
  have S5 := HD
  clear HD
  go_upto_region 13 with (fail)
  try go_wp2
  have HD := Aside0.mk S5.out.drew
  clear S5
  have HI13 := HI
  have HI14 := HI
  generalize wd_ = w5_ at HD ⊢
  refine start_ (n := 10) (S := fun w' => w'.cell? ⟨g, i * 4 + 3, none⟩ = some (.int .i64 cv.f3) ∧ w'.cell? ⟨eb, 5, none⟩ = some (.int .i64 ev.f5)) (ds := [9]) (xM 10 0) (by kernel_rfl) rfl rfl ⟨(card_cells (HD.out.row 2 rfl) HI.out).2.2.2.1.trans (by rw [HCV.out]), (HD.out.cell 0 rfl 5).trans rfl⟩ (fun hHeld => ?_)
  refine with_tabW ld26.tab13 ld26.bits13 (fun HT_ HW_ => ?_)
  generalize w5_.drew = wd_ at HD hHeld ⊢
  refine xP 0 59 (xM 10 1) HT_ ?_
  refine xP 1 60 (xM 10 3) HT_ ?_
  refine xP 2 61 (xM 10 7) HT_ ?_
  refine xQ 3 62 (xM 10 15) HT_ HW_ hHeld ?_
  refine xP 4 63 (xM 10 31) HT_ ?_
  refine xQ 5 64 (xM 10 63) HT_ HW_ hHeld ?_
  refine xP 6 65 (xM 10 127) HT_ ?_
  refine xP 7 66 (xM 10 255) HT_ ?_
  refine xP 8 67 (xM 10 511) HT_ ?_
  refine last_ (i := 9) (N := none) (xM 10 1023) rfl rfl (one_of HT_.out (by kernel_rfl)) (by decide) (fun K hK => ?_)
  have q0_ : wd_.cell? ⟨g, i * 4 + 3, none⟩ = some (.int .i64 cv.f3) := (card_cells (HD.out.row 2 rfl) HI.out).2.2.2.1.trans (by rw [HCV.out])
  have p0_ := (card_cells (HD.out.row 2 rfl) HI13.out).2.2.2.2 3
  refine skip_ (w1 := wd_.setCell ⟨g, i * 4 + 3, none⟩ (.int .i64 (wrap64 (cv.f3 + ev.f5)))) ?cw ?cn ?cr ?_
  case cn => rfl
  case cw => rfl
  case cr =>
    first | (go_simp; done) | (go_simp; rfl)
  have S6 := Aside0.mk (HD.out.rowset 2 rfl (card_spent (HD.out.row 2 rfl) HI13.out (wrap64 (cv.f3 + ev.f5))).1 (below_set HD.out.below (HD.out.dom 2 _ rfl g ((HD.out.row 2 rfl).1 g rfl)).1) (card_spent (HD.out.row 2 rfl) HI13.out (wrap64 (cv.f3 + ev.f5))).2)
  generalize wd_.setCell ⟨g, i * 4 + 3, none⟩ (.int .i64 (wrap64 (cv.f3 + ev.f5))) = w6 at S6 ⊢
  clear q0_ p0_
  refine hK.out _ _ ?_
  clear hK K
  refine done_ (done_of HT_.out (by kernel_rfl)) ?_
  clear HT_ HW_
  have S7 : Aside0 (Hp w0 (blk eb (.cells #[.int .i64 ev.f0, .int .i64 ev.f1, .int .i64 ev.f2, .int .i64 ev.f3, .string ev.f4, .int .i64 ev.f5] 35 (0, 0)) :: blk gb (.cells #[(.slice (some ⟨g, 0, none⟩) l2.length cap), uS, uR] 31 (0, 0)) :: rowA k39 39 w0.heap.size (PC') ((.slice (some ⟨g, 0, none⟩) l2.length cap)) (l2.set i ⟨cv.f0, cv.f1, cv.f2, wrap64 (cv.f3 + ev.f5)⟩) :: rowA Kd.string 9 w0.heap.size (PS) (uS) (lS) :: L) w6) := ⟨by
    have h_ := S6.out
    simp only [rd_set HI.out, List.set_set, ← HCV.out] at h_
    exact h_⟩
  clear S6
  clear HD
  go_upto_region 14 with (fail)
  try go_wp2
  have HD := Aside0.mk S7.out.drew
  clear S7
  refine start_ (n := 10) (S := fun w' => w'.cell? ⟨g, i * 4 + 1, none⟩ = some (.int .i64 cv.f1) ∧ w'.cell? ⟨eb, 5, none⟩ = some (.int .i64 ev.f5)) (ds := [9]) (xM 10 0) (by kernel_rfl) rfl rfl ⟨(card_cells (HD.out.row 2 rfl) HI.out).2.1.trans (by rw [rd_set HI.out]), (HD.out.cell 0 rfl 5).trans rfl⟩ (fun hHeld => ?_)
  refine with_tabW ld26.tab14 ld26.bits14 (fun HT_ HW_ => ?_)
  generalize w6.drew = wd_ at HD hHeld ⊢
  refine xP 0 68 (xM 10 1) HT_ ?_
  refine xP 1 69 (xM 10 3) HT_ ?_
  refine xP 2 70 (xM 10 7) HT_ ?_
  refine xQ 3 71 (xM 10 15) HT_ HW_ hHeld ?_
  refine xP 4 72 (xM 10 31) HT_ ?_
  refine xQ 5 73 (xM 10 63) HT_ HW_ hHeld ?_
  refine xP 6 74 (xM 10 127) HT_ ?_
  refine xP 7 75 (xM 10 255) HT_ ?_
  refine xP 8 76 (xM 10 511) HT_ ?_
  refine last_ (i := 9) (N := none) (xM 10 1023) rfl rfl (one_of HT_.out (by kernel_rfl)) (by decide) (fun K hK => ?_)
  have q0_ : wd_.cell? ⟨g, i * 4 + 1, none⟩ = some (.int .i64 cv.f1) := (card_cells (HD.out.row 2 rfl) HI.out).2.1.trans (by rw [rd_set HI.out])
  have p0_ := (card_cells (HD.out.row 2 rfl) HI14.out).2.2.2.2 1
  refine skip_ (w1 := wd_.setCell ⟨g, i * 4 + 1, none⟩ (.int .i64 (wrap64 (cv.f1 - ev.f5)))) ?cw ?cn ?cr ?_
  case cn => rfl
  case cw => rfl
  case cr =>
    first | (go_simp; done) | (go_simp; rfl)
  have S8 := Aside0.mk (HD.out.rowset 2 rfl (card_left (HD.out.row 2 rfl) HI14.out (wrap64 (cv.f1 - ev.f5))).1 (below_set HD.out.below (HD.out.dom 2 _ rfl g ((HD.out.row 2 rfl).1 g rfl)).1) (card_left (HD.out.row 2 rfl) HI14.out (wrap64 (cv.f1 - ev.f5))).2)
  generalize wd_.setCell ⟨g, i * 4 + 1, none⟩ (.int .i64 (wrap64 (cv.f1 - ev.f5))) = w8 at S8 ⊢
  clear q0_ p0_
  refine hK.out _ _ ?_
  clear hK K
  refine done_ (done_of HT_.out (by kernel_rfl)) ?_
  clear HT_ HW_
  have S9 : Aside0 (Hp w0 (blk eb (.cells #[.int .i64 ev.f0, .int .i64 ev.f1, .int .i64 ev.f2, .int .i64 ev.f3, .string ev.f4, .int .i64 ev.f5] 35 (0, 0)) :: blk gb (.cells #[(.slice (some ⟨g, 0, none⟩) l2.length cap), uS, uR] 31 (0, 0)) :: rowA k39 39 w0.heap.size (PC') ((.slice (some ⟨g, 0, none⟩) l2.length cap)) (l2.set i ⟨cv.f0, wrap64 (cv.f1 - ev.f5), cv.f2, wrap64 (cv.f3 + ev.f5)⟩) :: rowA Kd.string 9 w0.heap.size (PS) (uS) (lS) :: L) w8) := ⟨by
    have h_ := S8.out
    simp only [rd_set HI.out, List.set_set, ← HCV.out] at h_
    exact h_⟩
  clear S8
  go_wp2
  go_ret
  have h_ := S9.out.tail
  exact ⟨_, uS, PC', PS, rfl, h_⟩
/- impl.LedgerOf by hand. -/
def impl_LedgerOf.l0 : Nat → List S35 → List S39 → List ByteArray → List Int → Nat → Option (List S39 × List ByteArray × List Int)
  | 0, _, _, _, _, _ => none
  | k + 1, l, lC, lS, lR, i => if i < l.length then (doF k lC lS (rd_T35 l (i : Int))).bind fun q => impl_LedgerOf.l0 k l q.2.1 q.2.2 (if q.1 = true then lR else lR ++ [(i : Int)]) (i + 1) else some (lC, lS, lR)
def impl_LedgerOf.f (k : Nat) (l : List S35) : Option (List S39 × List ByteArray × List Int × Int) := (impl_Event_24.f l).bind fun t => if t = true then (impl_EventsOK.f k l).bind fun u => if u = true then (impl_LedgerOf.l0 k l [] [] [] 0).bind fun q => some (q.1, q.2.1, q.2.2, 0) else some ([], [], [], 1) else some ([], [], [], 2)
theorem impl_LedgerOf.mono_l : ∀ k l lC lS lR i, LeO (impl_LedgerOf.l0 k l lC lS lR i) (impl_LedgerOf.l0 (k + 1) l lC lS lR i)
  | 0, _, _, _, _, _ => LeO.none _
  | k + 1, l, lC, lS, lR, i => by
    unfold impl_LedgerOf.l0
    exact LeO.ite (LeO.bind (doF.mono _ _ _ _) (fun q => impl_LedgerOf.mono_l k _ _ _ _ _)) (LeO.refl _)
theorem impl_LedgerOf.mono : ∀ l k, LeO (impl_LedgerOf.f k l) (impl_LedgerOf.f (k + 1) l) := fun l k => LeO.bind (LeO.refl _) (fun t => LeO.ite (LeO.bind (impl_EventsOK.mono _ _) (fun u => LeO.ite (LeO.bind (impl_LedgerOf.mono_l k _ _ _ _ _) (fun _ => LeO.refl _)) (LeO.refl _))) (LeO.refl _))
theorem doQ.out {w0 : World} {gb : Nat} {b : Bool} {lC' : List S39} {lS' : List ByteArray} {uR : Value} {L : List Ass} {e : Ending} {w' : World} (h : doQ w0 gb b lC' lS' uR L e w') : ∃ (uC uS : Value) (PC PS : Nat → Prop), e = .returned (.bool b) ∧ Hp w0 (blk gb (.cells #[uC, uS, uR] 31 (0, 0)) :: rowA k39 39 w0.heap.size PC uC lC' :: rowA Kd.string 9 w0.heap.size PS uS lS' :: L) w' := h
theorem doF_len {k : Nat} {lC lC' : List S39} {lS lS' : List ByteArray} {e : S35} {b : Bool} (h : doF k lC lS e = some (b, lC', lS')) : lC'.length ≤ lC.length + 1 ∧ lS'.length ≤ lS.length + 1 := by
  have hc : ∀ t p, cardA lC e.f4 t = some p → p.1.length ≤ lC.length + 1 := by
    intro t p hp
    unfold cardA at hp
    split at hp
    · injection hp with hp; subst hp; simp
    · split at hp
      · injection hp with hp; subst hp; simp
      · cases hp
  unfold doF at h
  split at h
  · obtain ⟨t, _, h⟩ := Option.bind_eq_some_iff.mp h
    split at h <;> (simp only [Option.some.injEq, Prod.mk.injEq] at h; obtain ⟨rfl, rfl, rfl⟩ := h; simp)
  · obtain ⟨t, _, h⟩ := Option.bind_eq_some_iff.mp h
    obtain ⟨p, hp, h⟩ := Option.bind_eq_some_iff.mp h
    have := hc t p hp
    split at h
    · simp only [Option.some.injEq, Prod.mk.injEq] at h; obtain ⟨rfl, rfl, rfl⟩ := h; simp; omega
    · split at h <;> (simp only [Option.some.injEq, Prod.mk.injEq] at h; obtain ⟨rfl, rfl, rfl⟩ := h; simp; omega)
theorem ok_len {k : Nat} {l : List S35} (h : impl_EventsOK.f k l = some true) : l.length ≤ 120 := by
  unfold impl_EventsOK.f at h
  split at h
  · simp at h
  · omega
set_option maxHeartbeats 64000000 in
set_option maxRecDepth 100000 in
theorem impl_LedgerOf.calls (k : Nat) (A0 : Option Addr) (c0 : Nat) (l0 : List (S35)) (r1 : List (S39)) (r2 : List ByteArray) (r3 : List Int) (r4 : Int) (w : World) (hr0 : Kd.C k35 w A0 l0.length l0) (hc0 : l0.length ≤ c0) (h : impl_LedgerOf.f k l0 = some (r1, r2, r3, r4)) :
    Calls Try.prog 7 #[.slice A0 l0.length c0] w fun e w' => ∃ v0_ v1_ v2_ : Value, e = .returned (.tuple #[.agg #[v0_, v1_, v2_], .int .i64 r4]) ∧ Kd.R k39 39 w' w.heap.size (fun _ => True) v0_ r1 ∧ Kd.R Kd.string 9 w' w.heap.size (fun _ => True) v1_ r2 ∧ Kd.R (Kd.int .i64) 3 w' w.heap.size (fun _ => True) v2_ r3 ∧ Below w.heap.size w w' := by
  have hu31 := Try.underlying31
  have hu35 := Try.underlying35
  have hu29 := Try.underlying29
  have S0 := Aside0.mk (Hp.start w)
  have HR := Aside0.mk hr0
  have HC0 := Aside0.mk hc0
  unfold impl_LedgerOf.f at h
  clear hr0 hc0
  obtain ⟨t, ht, h2⟩ := Option.bind_eq_some_iff.mp h
  have HT := Aside0.mk ht
  have H2 := Aside0.mk h2
  clear h ht h2
  go_enter Try.func7, Try.ntmps7
  cases t with
  | false =>
    have h3 := H2.out
    rw [if_neg (by decide)] at h3
    simp only [Option.some.injEq, Prod.mk.injEq] at h3
    obtain ⟨rfl, rfl, rfl, rfl⟩ := h3
    clear H2
    go_wp2_with (first | (refine box_hp S0.out 2 #[.slice none 0 0, .slice none 0 0, .slice none 0 0] 31 rfl ?_; intro rb w1 h_; have S1 := Aside0.mk h_; clear h_) | (go_at_call 24; with_reducible refine (impl_Event_24.calls A0 c0 l0 _ _ ((Kd.C_below HR.out S1.out.below)) HC0.out HT.out).mono ?_; rintro e w2 ⟨rfl, nd_, rfl⟩; have S2 := Aside0.mk (S1.out.drewN nd_); generalize w1.drewN nd_ = w2 at S2 ⊢) | (refine store_struct (cs := #[.slice none 0 0, .slice none 0 0, .slice none 0 0]) (t := 31) (g := rb) (vs := [.slice none 0 0, .slice none 0 0, .slice none 0 0]) rfl rfl rfl (by kernel_rfl) rfl rfl (S2.out.get 0 rfl) rfl rfl ?_; have h_ := S2.out.putAll 0 [.slice none 0 0, .slice none 0 0, .slice none 0 0] rfl rfl; generalize w2.setCells rb 0 [.slice none 0 0, .slice none 0 0, .slice none 0 0] = w9 at h_ ⊢; have S9 := Aside0.mk (show Hp w [blk rb (.cells #[.slice none 0 0, .slice none 0 0, .slice none 0 0] 31 (0, 0))] w9 from h_); clear h_))
    refine bodyPost_ret (results_ct rfl _ _ rb 31 #[.slice none 0 0, .slice none 0 0, .slice none 0 0] (0, 0) _ rfl (S9.out.get 0 rfl) hu31 rfl (by kernel_rfl)) rfl ?_
    exact ⟨_, _, _, rfl, Kd.R_nil _ _ _ _ _, Kd.R_nil _ _ _ _ _, Kd.R_nil _ _ _ _ _, S9.out.below⟩
  | true =>
    have h3 := H2.out
    rw [if_pos rfl] at h3
    obtain ⟨u, hu, h4⟩ := Option.bind_eq_some_iff.mp h3
    have HU := Aside0.mk hu
    have H4 := Aside0.mk h4
    clear H2 h3 h4 hu
    cases u with
    | false =>
      have h3 := H4.out
      rw [if_neg (by decide)] at h3
      simp only [Option.some.injEq, Prod.mk.injEq] at h3
      obtain ⟨rfl, rfl, rfl, rfl⟩ := h3
      clear H4
      go_wp2_with (first | (refine box_hp S0.out 2 #[.slice none 0 0, .slice none 0 0, .slice none 0 0] 31 rfl ?_; intro rb w1 h_; have S1 := Aside0.mk h_; clear h_) | (go_at_call 24; with_reducible refine (impl_Event_24.calls A0 c0 l0 _ _ ((Kd.C_below HR.out S1.out.below)) HC0.out HT.out).mono ?_; rintro e w2 ⟨rfl, nd_, rfl⟩; have S2 := Aside0.mk (S1.out.drewN nd_); generalize w1.drewN nd_ = w2 at S2 ⊢) | (go_at_call 25; with_reducible refine (impl_EventsOK.calls k A0 c0 l0 _ _ ((Kd.C_below HR.out S2.out.below)) HC0.out HU.out).mono ?_; rintro e w3 ⟨rfl, hb3⟩; have S3 := Aside0.mk (S2.out.go hb3); clear hb3) | (refine store_struct (cs := #[.slice none 0 0, .slice none 0 0, .slice none 0 0]) (t := 31) (g := rb) (vs := [.slice none 0 0, .slice none 0 0, .slice none 0 0]) rfl rfl rfl (by kernel_rfl) rfl rfl (S3.out.get 0 rfl) rfl rfl ?_; have h_ := S3.out.putAll 0 [.slice none 0 0, .slice none 0 0, .slice none 0 0] rfl rfl; generalize w3.setCells rb 0 [.slice none 0 0, .slice none 0 0, .slice none 0 0] = w9 at h_ ⊢; have S9 := Aside0.mk (show Hp w [blk rb (.cells #[.slice none 0 0, .slice none 0 0, .slice none 0 0] 31 (0, 0))] w9 from h_); clear h_))
      refine bodyPost_ret (results_ct rfl _ _ rb 31 #[.slice none 0 0, .slice none 0 0, .slice none 0 0] (0, 0) _ rfl (S9.out.get 0 rfl) hu31 rfl (by kernel_rfl)) rfl ?_
      exact ⟨_, _, _, rfl, Kd.R_nil _ _ _ _ _, Kd.R_nil _ _ _ _ _, Kd.R_nil _ _ _ _ _, S9.out.below⟩
    | true =>
      have h3 := H4.out
      rw [if_pos rfl] at h3
      obtain ⟨⟨s1, s2, s3⟩, hq, h4⟩ := Option.bind_eq_some_iff.mp h3
      simp only [Option.some.injEq, Prod.mk.injEq] at h4
      obtain ⟨rfl, rfl, rfl, rfl⟩ := h4
      have HA0 := Aside0.mk hq
      have HL := Aside0.mk (ok_len HU.out)
      clear H4 h3 hq
      go_wp2_with (first | (refine box_hp S0.out 2 #[.slice none 0 0, .slice none 0 0, .slice none 0 0] 31 rfl ?_; intro rb w1 h_; have S1 := Aside0.mk h_; clear h_) | (go_at_call 24; with_reducible refine (impl_Event_24.calls A0 c0 l0 _ _ ((Kd.C_below HR.out S1.out.below)) HC0.out HT.out).mono ?_; rintro e w2 ⟨rfl, nd_, rfl⟩; have S2 := Aside0.mk (S1.out.drewN nd_); generalize w1.drewN nd_ = w2 at S2 ⊢) | (go_at_call 25; with_reducible refine (impl_EventsOK.calls k A0 c0 l0 _ _ ((Kd.C_below HR.out S2.out.below)) HC0.out HU.out).mono ?_; rintro e w3 ⟨rfl, hb3⟩; have S3 := Aside0.mk (S2.out.go hb3); clear hb3) | (refine box_hp S3.out 4 #[.slice none 0 0, .slice none 0 0, .slice none 0 0] 31 rfl ?_; intro ob w4 h_; have S4 := Aside0.mk h_; clear h_) | (refine store_struct (cs := #[.slice none 0 0, .slice none 0 0, .slice none 0 0]) (t := 31) (g := ob) (vs := [.slice none 0 0, .slice none 0 0, .slice none 0 0]) rfl rfl rfl (by kernel_rfl) rfl rfl (S4.out.get 0 rfl) rfl rfl ?_; have h_ := S4.out.putAll 0 [.slice none 0 0, .slice none 0 0, .slice none 0 0] rfl rfl; generalize w4.setCells ob 0 [.slice none 0 0, .slice none 0 0, .slice none 0 0] = w5 at h_ ⊢; have S5 := Aside0.mk (show Hp w [blk ob (.cells #[.slice none 0 0, .slice none 0 0, .slice none 0 0] 31 (0, 0)), blk rb (.cells #[.slice none 0 0, .slice none 0 0, .slice none 0 0] 31 (0, 0))] w5 from h_); clear h_))
      have S6 : Aside0 (Hp w [blk ob (.cells #[.slice none 0 0, .slice none 0 0, .slice none 0 0] 31 (0, 0)), rowA k39 39 w.heap.size (fun _ => False) (.slice none 0 0) ([]), rowA Kd.string 9 w.heap.size (fun _ => False) (.slice none 0 0) ([]), rowA (Kd.int .i64) 3 w.heap.size (fun _ => False) (.slice none 0 0) ([]), blk rb (.cells #[.slice none 0 0, .slice none 0 0, .slice none 0 0] 31 (0, 0))] w5) := ⟨(((S5.out.nil (Kd.int .i64) 3).nil Kd.string 9).nil k39 39).perm (List.perm_middle (l₁ := [_, _, _]) (l₂ := [_]))⟩
      clear S5 S4 S3 S2 S1
      go_loopg [20] k (fun kq v20 wr => ∃ (lC : List S39) (lS : List ByteArray) (lR : List Int) (i : Nat) (uC uS uR : Value) (PC PS PR : Nat → Prop), v20 = .int .i64 (i : Int) ∧ Aside0 (impl_LedgerOf.l0 kq l0 lC lS lR i = some (s1, s2, s3)) ∧ Aside0 (kq ≤ k) ∧ Aside0 (i ≤ l0.length) ∧ Aside0 (lC.length ≤ i ∧ lS.length ≤ i ∧ lR.length ≤ i) ∧ Aside0 (Hp w [blk ob (.cells #[uC, uS, uR] 31 (0, 0)), rowA k39 39 w.heap.size (PC) (uC) (lC), rowA Kd.string 9 w.heap.size (PS) (uS) (lS), rowA (Kd.int .i64) 3 w.heap.size (PR) (uR) (lR), blk rb (.cells #[.slice none 0 0, .slice none 0 0, .slice none 0 0] 31 (0, 0))] wr))
      case atStart => exact ⟨[], [], [], 0, _, _, _, _, _, _, rfl, HA0, ⟨Nat.le_refl _⟩, ⟨Nat.zero_le _⟩, ⟨⟨Nat.le_refl _, Nat.le_refl _, Nat.le_refl _⟩⟩, S6⟩
      case round =>
        obtain ⟨lC, lS, lR, i, uC, uS, uR, PC, PS, PR, rfl, HA, HK, GI, GL, SR⟩ := hrel
        clear S6 HA0
        cases gk with
        | zero => exact absurd HA.out (by simp [impl_LedgerOf.l0])
        | succ k1 =>
          have H := HA.out
          clear HA
          unfold impl_LedgerOf.l0 at H
          by_cases hlt : i < l0.length
          rotate_left
          · rw [if_neg hlt] at H
            simp only [Option.some.injEq, Prod.mk.injEq] at H
            obtain ⟨rfl, rfl, rfl⟩ := H
            have hltb : decide (i < l0.length) = false := decide_eq_false hlt
            clear hlt
            obtain ⟨A1, c1, rfl⟩ := Kd.R_slice (SR.out.row 1 rfl)
            obtain ⟨A2, c2, rfl⟩ := Kd.R_slice (SR.out.row 2 rfl)
            obtain ⟨A3, c3, rfl⟩ := Kd.R_slice (SR.out.row 3 rfl)
            have z0 := (SR.out.cell 0 rfl 0).trans rfl
            have z1 := (SR.out.cell 0 rfl 1).trans rfl
            have z2 := (SR.out.cell 0 rfl 2).trans rfl
            go_wp2_with (first | (refine store_struct (cs := #[.slice none 0 0, .slice none 0 0, .slice none 0 0]) (t := 31) (g := rb) (vs := [.slice A1 lC.length c1, .slice A2 lS.length c2, .slice A3 lR.length c3]) rfl rfl rfl (by kernel_rfl) rfl rfl (SR.out.get 4 rfl) rfl rfl ?_; have h_ := SR.out.putAll 4 [.slice A1 lC.length c1, .slice A2 lS.length c2, .slice A3 lR.length c3] rfl rfl; generalize wr.setCells rb 0 [.slice A1 lC.length c1, .slice A2 lS.length c2, .slice A3 lR.length c3] = w9 at h_ ⊢; have S9 := Aside0.mk (show Hp w [blk ob (.cells #[.slice A1 lC.length c1, .slice A2 lS.length c2, .slice A3 lR.length c3] 31 (0, 0)), rowA k39 39 w.heap.size (PC) (.slice A1 lC.length c1) (lC), rowA Kd.string 9 w.heap.size (PS) (.slice A2 lS.length c2) (lS), rowA (Kd.int .i64) 3 w.heap.size (PR) (.slice A3 lR.length c3) (lR), blk rb (.cells #[.slice A1 lC.length c1, .slice A2 lS.length c2, .slice A3 lR.length c3] 31 (0, 0))] w9 from h_); clear h_))
            refine bodyPost_ret (results_ct rfl _ _ rb 31 #[.slice A1 lC.length c1, .slice A2 lS.length c2, .slice A3 lR.length c3] (0, 0) _ rfl (S9.out.get 4 rfl) hu31 rfl (by kernel_rfl)) rfl ?_
            exact ⟨_, _, _, rfl, Kd.R_mono (S9.out.row 1 rfl) (fun _ _ => trivial), Kd.R_mono (S9.out.row 2 rfl) (fun _ _ => trivial), Kd.R_mono (S9.out.row 3 rfl) (fun _ _ => trivial), S9.out.below⟩
          rw [if_pos hlt] at H
          have hltb : decide (i < l0.length) = true := decide_eq_true hlt
          have hltb2 : decide ((i : Int) < (l0.length : Int)) = true := decide_eq_true (by omega)
          obtain ⟨ad, e, hx0, hx1, hx2, hx3, hx4, hx5⟩ := at_T35 HR.out (i : Int) (by omega) (by omega)
          cases e
          rw [Int.toNat_natCast] at hx0 hx1 hx2 hx3 hx4 hx5
          obtain ⟨ev, hev⟩ : ∃ ev, ev = rd_T35 l0 (i : Int) := ⟨_, rfl⟩
          rw [← hev] at H hx0 hx1 hx2 hx3 hx4 hx5
          clear hev
          obtain ⟨⟨b, lC', lS'⟩, hd, H3⟩ := Option.bind_eq_some_iff.mp H
          have hlen := doF_len hd
          have HD := Aside0.mk hd
          have H4 := Aside0.mk H3
          have HLEN := Aside0.mk hlen
          have hp0 : (0 ≤ (i : Int)) = True := eq_true (by omega)
          have hp1 : ((i : Int) < (l0.length : Int)) = True := eq_true (by omega)
          have hi120 : i < 120 := by have := HL.out; omega
          have HI := Aside0.mk hlt
          clear hlt H hd H3 hlen
          replace hx0 := (SR.out.below.cell (World.block_lt_of_cell? w _ hx0)).trans hx0
          replace hx1 := (SR.out.below.cell (World.block_lt_of_cell? w _ hx1)).trans hx1
          replace hx2 := (SR.out.below.cell (World.block_lt_of_cell? w _ hx2)).trans hx2
          replace hx3 := (SR.out.below.cell (World.block_lt_of_cell? w _ hx3)).trans hx3
          replace hx4 := (SR.out.below.cell (World.block_lt_of_cell? w _ hx4)).trans hx4
          replace hx5 := (SR.out.below.cell (World.block_lt_of_cell? w _ hx5)).trans hx5
          go_upto_if 27 with (first | (refine box_hp SR.out 6 #[.int .i64 0, .int .i64 0, .int .i64 0, .int .i64 0, .string ⟨#[]⟩, .int .i64 0] 35 rfl ?_; intro eb w2 h_; have S2 := Aside0.mk h_; clear h_; clear hx0 hx1 hx2 hx3 hx4 hx5) | (refine store_struct (cs := #[.int .i64 0, .int .i64 0, .int .i64 0, .int .i64 0, .string ⟨#[]⟩, .int .i64 0]) (t := 35) (g := eb) (vs := [.int .i64 ev.f0, .int .i64 ev.f1, .int .i64 ev.f2, .int .i64 ev.f3, .string ev.f4, .int .i64 ev.f5]) rfl rfl rfl (by kernel_rfl) rfl rfl (S2.out.get 0 rfl) rfl rfl ?_; have h_ := S2.out.putAll 0 [.int .i64 ev.f0, .int .i64 ev.f1, .int .i64 ev.f2, .int .i64 ev.f3, .string ev.f4, .int .i64 ev.f5] rfl rfl; generalize w2.setCells eb 0 [.int .i64 ev.f0, .int .i64 ev.f1, .int .i64 ev.f2, .int .i64 ev.f3, .string ev.f4, .int .i64 ev.f5] = w3 at h_ ⊢; have S3 := Aside0.mk (show Hp w [blk eb (.cells #[.int .i64 ev.f0, .int .i64 ev.f1, .int .i64 ev.f2, .int .i64 ev.f3, .string ev.f4, .int .i64 ev.f5] 35 (0, 0)), blk ob (.cells #[uC, uS, uR] 31 (0, 0)), rowA k39 39 w.heap.size (PC) (uC) (lC), rowA Kd.string 9 w.heap.size (PS) (uS) (lS), rowA (Kd.int .i64) 3 w.heap.size (PR) (uR) (lR), blk rb (.cells #[.slice none 0 0, .slice none 0 0, .slice none 0 0] 31 (0, 0))] w3 from h_); clear h_ S2; have ze0 : w3.cell? ⟨eb, 0, none⟩ = some (.int .i64 ev.f0) := (S3.out.cell 0 rfl 0).trans rfl; have ze1 : w3.cell? ⟨eb, 1, none⟩ = some (.int .i64 ev.f1) := (S3.out.cell 0 rfl 1).trans rfl; have ze2 : w3.cell? ⟨eb, 2, none⟩ = some (.int .i64 ev.f2) := (S3.out.cell 0 rfl 2).trans rfl; have ze3 : w3.cell? ⟨eb, 3, none⟩ = some (.int .i64 ev.f3) := (S3.out.cell 0 rfl 3).trans rfl; have ze4 : w3.cell? ⟨eb, 4, none⟩ = some (.string ev.f4) := (S3.out.cell 0 rfl 4).trans rfl; have ze5 : w3.cell? ⟨eb, 5, none⟩ = some (.int .i64 ev.f5) := (S3.out.cell 0 rfl 5).trans rfl) | (go_at_call 26; with_reducible refine (do_calls k1 w w3 ob uC uS uR PC PS lC lC' lS lS' _ ev b HD.out (by have := GL.out; omega) (by have := GL.out; omega) S3.out.tail).mono ?_; intro e w5 hq_; obtain ⟨uC', uS', PC', PS', rfl, h_⟩ := hq_.out; clear hq_; have S5 := Aside0.mk h_; clear h_ ze0 ze1 ze2 ze3 ze4 ze5 S3))
          clear SR
          cases b with
          | true =>
            go_wp2
            go_roundg k1
            case measure => exact Nat.lt_succ_self _
            case rel => exact ⟨lC', lS', lR, i + 1, uC', uS', uR, PC', PS', PR, by simp, H4, ⟨by have := HK.out; omega⟩, ⟨HI.out⟩, ⟨by have := GL.out; have := HLEN.out; omega⟩, S5⟩
          | false =>
            obtain ⟨A3, c3, rfl⟩ := Kd.R_slice (S5.out.row 3 rfl)
            have z2 : w5.cell? ⟨ob, 2, none⟩ = some (.slice A3 lR.length c3) := (S5.out.cell 0 rfl 2).trans rfl
            go_wp2_with (first | ((with_reducible refine gate_builtin (b := .append) (xs := #[.tmp 29, .tmp 31]) rfl ?_); (try (refine gate_guard (by rfl) ?_; dsimp only)); at_builtin; refine Kd.R_append (Kd.int .i64) (w0 := w) w.heap.size rfl (.tmp 29) (.tmp 31) 29 3 (.int .i64 0) 8 rfl hu29 (by kernel_rfl) rfl (by decide) (by decide) (.slice A3 lR.length c3) lR (i : Int) [.int .i64 (i : Int)] (fun k_ => PR k_ ∨ w5.heap.size ≤ k_) (fun _ => False) rfl rfl rfl (fun _ hk => hk.elim) (fun _ hk => .inr hk) (Kd.R_mono (S5.out.row 3 rfl) (fun _ hk => .inl hk)) S5.out.below S5.out.below.size (by have := GL.out; omega) ?_; intro v10 w10 hr10 hb10 hg10 hat10; obtain ⟨g, cap, hv, _, _, _⟩ := Kd.R_form hr10 (by rw [List.length_append]; simp); rw [show (lR ++ [(i : Int)]).length = lR.length + 1 from by simp] at hv; subst hv; have S10 := Aside0.mk (S5.out.append 3 rfl hr10 hb10 hg10); clear hr10 hb10 hg10 hat10; have y2 := (S10.out.cell 0 rfl 2).trans rfl; have f2 := S10.out.froz 0 rfl 2))
            have S11 := Aside0.mk (S10.out.put 0 2 (.slice (some ⟨g, 0, none⟩) (lR.length + 1) cap) rfl rfl)
            generalize w10.setCell ⟨ob, 2, none⟩ (.slice (some ⟨g, 0, none⟩) (lR.length + 1) cap) = w11 at S11 ⊢
            clear S10 y2 f2
            go_roundg k1
            case measure => exact Nat.lt_succ_self _
            case rel => exact ⟨lC', lS', lR ++ [(i : Int)], i + 1, uC', uS', _, PC', PS', (fun k_ => (PR k_ ∨ w5.heap.size ≤ k_) ∧ k_ < w10.heap.size), by simp, H4, ⟨by have := HK.out; omega⟩, ⟨HI.out⟩, ⟨by have := GL.out; have := HLEN.out; rw [List.length_append]; simp only [List.length_cons, List.length_nil]; omega⟩, S11⟩

end Go.Proofs.Ytoibmbkmpadmnaa.V
