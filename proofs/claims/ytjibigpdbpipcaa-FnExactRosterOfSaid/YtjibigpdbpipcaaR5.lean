-- squeezed
-- made by pp.py (wip/tools) out of the translation; Lean checks it
import Derived.Test.YtjibigpdbpipcaaR0
namespace Go.Proofs.Ytjibigpdbpipcaa.R
open Go.RowKit Go.Proofs.YtjibigpdbpipcaaW.PrintWords Go.Proofs.YtjibigpdbpipcaaW.PrintLast Go.Proofs.YtjibigpdbpipcaaW.PrintMore
attribute [local go_sem] max2_int min2_int max_two min_two max_three min_three max_four min_four   -- for this text's walks alone
set_option linter.unusedVariables false
set_option linter.unusedSimpArgs false


/-! ### spec_l00Has: function 78 -/
def spec_l00Has.l0 : Nat → List ByteArray → ByteArray → Int → Option (Bool)
 | 0, _, _, _ => none
 | k + 1, x0, x1, x5 => if x5 < (x0.length : Int) then (if 0 ≤ x5 then (if (rdOf ByteArray.empty x0 x5).toList = x1.toList then (some true) else (spec_l00Has.l0 k x0 x1 (wrap64 (x5 + 1)))) else (none)) else (some false)
def spec_l00Has.f (k : Nat) (l0 : List ByteArray) (a1 : ByteArray) : Option (Bool) := spec_l00Has.l0 k l0 a1 0
theorem spec_l00Has.mono_l : ∀ k, (∀ y0 y1 y2, LeO (spec_l00Has.l0 k y0 y1 y2) (spec_l00Has.l0 (k + 1) y0 y1 y2))
 | 0 => fun _ _ _ r h => by simp [spec_l00Has.l0] at h
 | k + 1 => by
  have ih0 := spec_l00Has.mono_l k
  ·intro y0 y1 y2
   unfold spec_l00Has.l0
   repeat' first
   | (with_reducible exact ih0 _ _ _)
   | (with_reducible exact LeO.refl _)
   | (with_reducible exact LeO.none _)
   | (with_reducible refine LeO.ite ?_ ?_)
   | (with_reducible refine LeO.bind ?_ (fun _ => ?_))
   | exact ih0 _ _ _
   | exact LeO.none _
   | refine LeO.ite ?_ ?_
   | refine LeO.bind ?_ (fun _ => ?_)
theorem spec_l00Has.mono : ∀ a0 a1 k, LeO (spec_l00Has.f k a0 a1) (spec_l00Has.f (k + 1) a0 a1) := by
 intro a0 a1 k
 have ih0 := spec_l00Has.mono_l k
 unfold spec_l00Has.f
 repeat' first
   | (with_reducible exact ih0 _ _ _)
   | (with_reducible exact LeO.refl _)
   | (with_reducible exact LeO.none _)
   | (with_reducible refine LeO.ite ?_ ?_)
   | (with_reducible refine LeO.bind ?_ (fun _ => ?_))
   | exact ih0 _ _ _
   | exact LeO.none _
   | refine LeO.ite ?_ ?_
   | refine LeO.bind ?_ (fun _ => ?_)
set_option maxHeartbeats 8000000 in
set_option maxRecDepth 100000 in
theorem spec_l00Has.calls (k : Nat) (A0 : Option Addr) (c0 : Nat) (l0 : List ByteArray) (a1 : ByteArray) (r : Bool) (w : World) (hr0 : Kd.C Kd.string w A0 l0.length l0) (hc0 : l0.length ≤ c0) (h : spec_l00Has.f k l0 a1 = some r) :
  Calls Try.prog 78 #[.slice A0 l0.length c0, .string a1] w fun e w' => e = .returned (.bool r) ∧ Drawn0 w w' := by
 have HR0 := zb hr0
 have HC0 := zb hc0
 clear hr0 hc0
 have H : (spec_l00Has.l0 k l0 a1 0) = some r := h
 clear h
 have H' := zb H
 clear H
 go_enter Try.func78, Try.ntmps78
 go_wp2
 go_loopg [5] k (fun kq v5 w' => ∃ (x5_1 : Int), v5 = .int .i64 x5_1 ∧ Aside0 (spec_l00Has.l0 kq l0 a1 x5_1 = some r) ∧ Aside0 (kq ≤ k) ∧ Drawn0 w w')
 case atStart => exact ⟨(0), zG95, H', ⟨Nat.le_refl _⟩, zH95⟩
 case round =>
  clear H'
  try clear p2
  obtain ⟨x5_1, rfl, HA, HK1, ⟨m1, rfl⟩⟩ := hrel
  cases gk with
  | zero => exact absurd HA.out (by simp [spec_l00Has.l0])
  | succ k1 =>
   have H := HA.out
   clear HA
   simp only [spec_l00Has.l0] at H
   by_cases c3 : x5_1 < (l0.length : Int)
   rotate_left
   ·rw [if_neg c3] at H
    have c3b0 := decide_eq_false c3
    clear c3
    obtain rfl := Option.some.inj H
    go_wp2
    go_ret
    exact zH68

   rw [if_pos c3] at H
   have c3b0 := decide_eq_true c3
   clear c3
   by_cases c4 : 0 ≤ x5_1
   rotate_left
   ·rw [if_neg c4] at H
    exact absurd H (by simp)
   rw [if_pos c4] at H
   have c4b0 := decide_eq_true c4
   clear c4
   by_cases c5 : (rdOf ByteArray.empty l0 x5_1).toList = a1.toList
   ·rw [if_pos c5] at H
    have c5b0 : ((rdOf ByteArray.empty l0 x5_1).toList == a1.toList) = true := beq_iff_eq.mpr c5
    have c5b1 : ((rdOf ByteArray.empty l0 x5_1).toList != a1.toList) = false := bne_eq_false_iff_eq.mpr c5
    clear c5
    obtain rfl := Option.some.inj H
    have p132 : 0 ≤ (x5_1 : Int) := zO
    have q132 : x5_1 < (l0.length : Int) := zO
    obtain ⟨ad132, e132, hx132_0⟩ := zam HR0.out x5_1 p132 q132
    cases e132
    replace p132 := eq_true p132
    replace q132 := eq_true q132
    go_wp2
    go_ret
    exact zH68
   rw [if_neg c5] at H
   have c5b0 : ((rdOf ByteArray.empty l0 x5_1).toList == a1.toList) = false := beq_eq_false_iff_ne.mpr c5
   have c5b1 : ((rdOf ByteArray.empty l0 x5_1).toList != a1.toList) = true := bne_iff_ne.mpr c5
   have H' := zb H
   clear H
   have p132 : 0 ≤ (x5_1 : Int) := zO
   have q132 : x5_1 < (l0.length : Int) := zO
   obtain ⟨ad132, e132, hx132_0⟩ := zam HR0.out x5_1 p132 q132
   cases e132
   replace p132 := eq_true p132
   replace q132 := eq_true q132
   go_wp2
   go_roundg k1
   case measure => have := HK1.out; omega
   case rel => exact ⟨(wrap64 (x5_1 + 1)), zG95, H', ⟨zH104⟩, zH95⟩
/-! ### spec_l21Code: function 54 -/
def spec_l21Code.l0 : Nat → List (S98) → List Int → Int → Int → Bool → Int → ByteArray → Int → Int → Int → List ByteArray → Option (Int)
 | 0, _, _, _, _, _, _, _, _, _, _, _ => none
 | k + 1, x0, x2, x3, x10, x11, x12, x136000, x136001, x136002, x136003, x136004 => if x12 < x3 then (if 0 ≤ x12 then (if x12 < (x2.length : Int) then (if 0 ≤ x3 then (if x3 < (x2.length : Int) then (if (rd x2 x12) = (rd x2 x3) then (if x12 < (x0.length : Int) then (if x11 = true then (spec_l21Code.l0 k x0 x2 x3 (wrap64 (x10 + (wrap64 (((rd_T98 x0 x12).f1) - ((rd_T98 x0 x12).f0))))) true (wrap64 (x12 + 1)) x136000 x136001 x136002 x136003 x136004) else (if x3 < (x0.length : Int) then (spec_l21Code.l0 k x0 x2 x3 (wrap64 (x10 + (wrap64 (((rd_T98 x0 x12).f1) - ((rd_T98 x0 x12).f0))))) (decide (((rd_T98 x0 x3).f0) < (wrap64 (((rd_T98 x0 x12).f1) + x136002)))) (wrap64 (x12 + 1)) x136000 x136001 x136002 x136003 x136004) else (none))) else (none)) else (spec_l21Code.l0 k x0 x2 x3 x10 x11 (wrap64 (x12 + 1)) x136000 x136001 x136002 x136003 x136004)) else (none)) else (none)) else (none)) else (none)) else (if x11 = true then (some 12) else (if x10 > x136001 then (some 11) else (some 0)))
def spec_l21Code.f (k : Nat) (l0 : List (S98)) (l1 : List (S100)) (l2 : List Int) (a3 : Int) : Option (Int) := if 0 ≤ a3 then (if a3 < (l2.length : Int) then (if 0 ≤ (rd l2 a3) then (if (rd l2 a3) < (l1.length : Int) then (if a3 < (l0.length : Int) then ((spec_l00Has.f k ((rd_T100 l1 (rd l2 a3)).f4) ((rd_T98 l0 a3).f2)).bind fun t137 => (if t137 = true then (spec_l21Code.l0 k l0 l2 a3 (wrap64 (((rd_T98 l0 a3).f1) - ((rd_T98 l0 a3).f0))) false 0 ((rd_T100 l1 (rd l2 a3)).f0) ((rd_T100 l1 (rd l2 a3)).f1) ((rd_T100 l1 (rd l2 a3)).f2) ((rd_T100 l1 (rd l2 a3)).f3) ((rd_T100 l1 (rd l2 a3)).f4)) else (some 13))) else (none)) else (none)) else (none)) else (none)) else (none)
theorem spec_l21Code.mono_l : ∀ k, (∀ y0 y1 y2 y3 y4 y5 y6 y7 y8 y9 y10, LeO (spec_l21Code.l0 k y0 y1 y2 y3 y4 y5 y6 y7 y8 y9 y10) (spec_l21Code.l0 (k + 1) y0 y1 y2 y3 y4 y5 y6 y7 y8 y9 y10))
 | 0 => fun _ _ _ _ _ _ _ _ _ _ _ r h => by simp [spec_l21Code.l0] at h
 | k + 1 => by
  have ih0 := spec_l21Code.mono_l k
  ·intro y0 y1 y2 y3 y4 y5 y6 y7 y8 y9 y10
   unfold spec_l21Code.l0
   repeat' first
   | (with_reducible exact ih0 _ _ _ _ _ _ _ _ _ _ _)
   | (with_reducible exact spec_l00Has.mono _ _ _)
   | (with_reducible exact LeO.refl _)
   | (with_reducible exact LeO.none _)
   | (with_reducible refine LeO.ite ?_ ?_)
   | (with_reducible refine LeO.bind ?_ (fun _ => ?_))
   | exact ih0 _ _ _ _ _ _ _ _ _ _ _
   | exact spec_l00Has.mono _ _ _
   | exact LeO.none _
   | refine LeO.ite ?_ ?_
   | refine LeO.bind ?_ (fun _ => ?_)
theorem spec_l21Code.mono : ∀ a0 a1 a2 a3 k, LeO (spec_l21Code.f k a0 a1 a2 a3) (spec_l21Code.f (k + 1) a0 a1 a2 a3) := by
 intro a0 a1 a2 a3 k
 have ih0 := spec_l21Code.mono_l k
 unfold spec_l21Code.f
 repeat' first
   | (with_reducible exact ih0 _ _ _ _ _ _ _ _ _ _ _)
   | (with_reducible exact spec_l00Has.mono _ _ _)
   | (with_reducible exact LeO.refl _)
   | (with_reducible exact LeO.none _)
   | (with_reducible refine LeO.ite ?_ ?_)
   | (with_reducible refine LeO.bind ?_ (fun _ => ?_))
   | exact ih0 _ _ _ _ _ _ _ _ _ _ _
   | exact spec_l00Has.mono _ _ _
   | exact LeO.none _
   | refine LeO.ite ?_ ?_
   | refine LeO.bind ?_ (fun _ => ?_)
set_option maxHeartbeats 64000000 in
set_option maxRecDepth 100000 in
theorem spec_l21Code.calls (k : Nat) (A0 : Option Addr) (c0 : Nat) (l0 : List (S98)) (A1 : Option Addr) (c1 : Nat) (l1 : List (S100)) (A2 : Option Addr) (c2 : Nat) (l2 : List Int) (a3 : Int) (r : Int) (w : World) (hr0 : Kd.C k98 w A0 l0.length l0) (hc0 : l0.length ≤ c0) (hr1 : Kd.C k100 w A1 l1.length l1) (hc1 : l1.length ≤ c1) (hr2 : Kd.C (Kd.int .i64) w A2 l2.length l2) (hc2 : l2.length ≤ c2) (h : spec_l21Code.f k l0 l1 l2 a3 = some r) :
  Calls Try.prog 54 #[.slice A0 l0.length c0, .slice A1 l1.length c1, .slice A2 l2.length c2, .int .i64 a3] w fun e w' => e = .returned (.int .i64 r) ∧ Below w.heap.size w w' := by
 have hu100 := Try.underlying100
 have HR0 := zb hr0
 have HC0 := zb hc0
 clear hr0 hc0
 have HR1 := zb hr1
 have HC1 := zb hc1
 clear hr1 hc1
 have HR2 := zb hr2
 have HC2 := zb hc2
 clear hr2 hc2
 have HB := zb (Below.refl w.heap.size w)
 have H : (if 0 ≤ a3 then (if a3 < (l2.length : Int) then (if 0 ≤ (rd l2 a3) then (if (rd l2 a3) < (l1.length : Int) then (if a3 < (l0.length : Int) then ((spec_l00Has.f k ((rd_T100 l1 (rd l2 a3)).f4) ((rd_T98 l0 a3).f2)).bind fun t137 => (if t137 = true then (spec_l21Code.l0 k l0 l2 a3 (wrap64 (((rd_T98 l0 a3).f1) - ((rd_T98 l0 a3).f0))) false 0 ((rd_T100 l1 (rd l2 a3)).f0) ((rd_T100 l1 (rd l2 a3)).f1) ((rd_T100 l1 (rd l2 a3)).f2) ((rd_T100 l1 (rd l2 a3)).f3) ((rd_T100 l1 (rd l2 a3)).f4)) else (some 13))) else (none)) else (none)) else (none)) else (none)) else (none)) = some r := h
 clear h
 by_cases c5 : 0 ≤ a3
 rotate_left
 ·rw [if_neg c5] at H
  exact absurd H (by simp)

 rw [if_pos c5] at H
 have c5b0 := decide_eq_true c5
 clear c5
 by_cases c6 : a3 < (l2.length : Int)
 rotate_left
 ·rw [if_neg c6] at H
  exact absurd H (by simp)
 rw [if_pos c6] at H
 have c6b0 := decide_eq_true c6
 clear c6
 by_cases c7 : 0 ≤ (rd l2 a3)
 rotate_left
 ·rw [if_neg c7] at H
  exact absurd H (by simp)
 rw [if_pos c7] at H
 have c7b0 := decide_eq_true c7
 clear c7
 by_cases c8 : (rd l2 a3) < (l1.length : Int)
 rotate_left
 ·rw [if_neg c8] at H
  exact absurd H (by simp)
 rw [if_pos c8] at H
 have c8b0 := decide_eq_true c8
 clear c8
 by_cases c9 : a3 < (l0.length : Int)
 rotate_left
 ·rw [if_neg c9] at H
  exact absurd H (by simp)
 rw [if_pos c9] at H
 have c9b0 := decide_eq_true c9
 clear c9
 replace H := Option.bind_eq_some_iff.mp H
 obtain ⟨t137, A100, H⟩ := H
 replace H : (if t137 = true then (spec_l21Code.l0 k l0 l2 a3 (wrap64 (((rd_T98 l0 a3).f1) - ((rd_T98 l0 a3).f0))) false 0 ((rd_T100 l1 (rd l2 a3)).f0) ((rd_T100 l1 (rd l2 a3)).f1) ((rd_T100 l1 (rd l2 a3)).f2) ((rd_T100 l1 (rd l2 a3)).f3) ((rd_T100 l1 (rd l2 a3)).f4)) else (some 13)) = some r := H
 have A10 := zb A100
 clear A100
 by_cases c11 : t137 = true
 rotate_left
 ·replace c11 := Bool.eq_false_iff.mpr c11
  subst c11
  have H1 : (some 13) = some r := by rw [if_neg (show ¬ (false = true) by decide)] at H; exact H
  clear H
  have H := H1
  clear H1
  obtain rfl := Option.some.inj H
  have p133 : 0 ≤ (a3 : Int) := zO
  have q133 : a3 < (l2.length : Int) := zO
  obtain ⟨ad133, e133, hx133_0⟩ := zaj HR2.out a3 p133 q133
  cases e133
  replace p133 := eq_true p133
  replace q133 := eq_true q133
  have p134 : 0 ≤ ((rd l2 a3) : Int) := zO
  have q134 : (rd l2 a3) < (l1.length : Int) := zO
  obtain ⟨ad134, A134_4, c134_4, e134, hx134_0, hx134_1, hx134_2, hx134_3, hx134_4, hl134_4, hi134_4⟩ := at_T100 HR1.out (rd l2 a3) p134 q134
  cases e134
  have HR134_4 := zb hi134_4
  have HC134_4 := zb hl134_4
  clear hi134_4 hl134_4
  replace p134 := eq_true p134
  replace q134 := eq_true q134
  go_enter Try.func54, Try.ntmps54
  go_wp2_with (first | ((with_reducible refine gate_dst (N := 9) rfl ?_); refine box_event ?hg (N := 9) ?hd (cs := #[.string (⟨#[]⟩ : ByteArray), .int .i64 0, .int .i64 0, .int .i64 0, .slice none 0 0]) (t := 100) ?hr ?_; (case hd => rfl); (case hg => rfl); (case hr => exact zH100); intro gb135 hg w28 hbox hb; have n_ := zA_ (zb (zq zG76 hb)) (zA_ (zb (hbox)) (zA_ (zb ((by rw [hg]; exact (zo zG76) : w.heap.size ≤ gb135))) (zb ((by rw [hg]; exact (zo zG76) : w.heap.size ≤ gb135))))); clear HB; obtain ⟨HB, BK135, GW135, GE135⟩ := n_; clear hb hbox hg; have hcz29_0 : w28.cell? ⟨gb135, 0, none⟩ = some (.string (⟨#[]⟩ : ByteArray)) := (zg BK135.out 0).trans rfl; have hcz29_1 : w28.cell? ⟨gb135, 1, none⟩ = some (.int .i64 0) := (zg BK135.out 1).trans rfl; have hcz29_2 : w28.cell? ⟨gb135, 2, none⟩ = some (.int .i64 0) := (zg BK135.out 2).trans rfl; have hcz29_3 : w28.cell? ⟨gb135, 3, none⟩ = some (.int .i64 0) := (zg BK135.out 3).trans rfl; have hcz29_4 : w28.cell? ⟨gb135, 4, none⟩ = some (.slice none 0 0) := (zg BK135.out 4).trans rfl; have hfz29_0 := zf BK135.out 0; have hfz29_1 := zf BK135.out 1; have hfz29_2 := zf BK135.out 2; have hfz29_3 := zf BK135.out 3; have hfz29_4 := zf BK135.out 4; have p136 : 0 ≤ (a3 : Int) := zO; have q136 : a3 < (l0.length : Int) := zO; obtain ⟨ad136, e136, hx136_0, hx136_1, hx136_2⟩ := at_T98 HR0.out a3 p136 q136; cases e136; have hn136_0 : ad136.block ≠ gb135 := Nat.ne_of_lt (Nat.lt_of_lt_of_le zG86 GW135.out); have hn136_1 : ad136.block ≠ gb135 := Nat.ne_of_lt (Nat.lt_of_lt_of_le zG86 GW135.out); have hn136_2 : ad136.block ≠ gb135 := Nat.ne_of_lt (Nat.lt_of_lt_of_le zG86 GW135.out); have hn136_3 : ad136.block ≠ gb135 := Nat.ne_of_lt (Nat.lt_of_lt_of_le zG86 GW135.out); have hn136_4 : ad136.block ≠ gb135 := Nat.ne_of_lt (Nat.lt_of_lt_of_le zG86 GW135.out); replace hx136_0 := (HB.out.cell (za w _ hx136_0)).trans hx136_0; replace hx136_1 := (HB.out.cell (za w _ hx136_1)).trans hx136_1; replace hx136_2 := (HB.out.cell (za w _ hx136_2)).trans hx136_2; replace hx136_0 := (cell_far (p := ⟨gb135, 0, none⟩) zG71 (.string ((rd_T100 l1 (rd l2 a3)).f0))).trans hx136_0; replace hx136_1 := (cell_far (p := ⟨gb135, 0, none⟩) zG71 (.string ((rd_T100 l1 (rd l2 a3)).f0))).trans hx136_1; replace hx136_2 := (cell_far (p := ⟨gb135, 0, none⟩) zG71 (.string ((rd_T100 l1 (rd l2 a3)).f0))).trans hx136_2; replace hx136_0 := (cell_far (p := ⟨gb135, 1, none⟩) zG72 (.int .i64 ((rd_T100 l1 (rd l2 a3)).f1))).trans hx136_0; replace hx136_1 := (cell_far (p := ⟨gb135, 1, none⟩) zG72 (.int .i64 ((rd_T100 l1 (rd l2 a3)).f1))).trans hx136_1; replace hx136_2 := (cell_far (p := ⟨gb135, 1, none⟩) zG72 (.int .i64 ((rd_T100 l1 (rd l2 a3)).f1))).trans hx136_2; replace hx136_0 := (cell_far (p := ⟨gb135, 2, none⟩) zG73 (.int .i64 ((rd_T100 l1 (rd l2 a3)).f2))).trans hx136_0; replace hx136_1 := (cell_far (p := ⟨gb135, 2, none⟩) zG73 (.int .i64 ((rd_T100 l1 (rd l2 a3)).f2))).trans hx136_1; replace hx136_2 := (cell_far (p := ⟨gb135, 2, none⟩) zG73 (.int .i64 ((rd_T100 l1 (rd l2 a3)).f2))).trans hx136_2; replace hx136_0 := (cell_far (p := ⟨gb135, 3, none⟩) zG74 (.int .i64 ((rd_T100 l1 (rd l2 a3)).f3))).trans hx136_0; replace hx136_1 := (cell_far (p := ⟨gb135, 3, none⟩) zG74 (.int .i64 ((rd_T100 l1 (rd l2 a3)).f3))).trans hx136_1; replace hx136_2 := (cell_far (p := ⟨gb135, 3, none⟩) zG74 (.int .i64 ((rd_T100 l1 (rd l2 a3)).f3))).trans hx136_2; replace hx136_0 := (cell_far (p := ⟨gb135, 4, none⟩) zG75 (.slice A134_4 ((rd_T100 l1 (rd l2 a3)).f4).length c134_4)).trans hx136_0; replace hx136_1 := (cell_far (p := ⟨gb135, 4, none⟩) zG75 (.slice A134_4 ((rd_T100 l1 (rd l2 a3)).f4).length c134_4)).trans hx136_1; replace hx136_2 := (cell_far (p := ⟨gb135, 4, none⟩) zG75 (.slice A134_4 ((rd_T100 l1 (rd l2 a3)).f4).length c134_4)).trans hx136_2; (try have hy136_0 := fun (n_ : Nat) => (show (((((((w28.drewN n_).setCell ⟨gb135, 0, none⟩ (.string ((rd_T100 l1 (rd l2 a3)).f0))).setCell ⟨gb135, 1, none⟩ (.int .i64 ((rd_T100 l1 (rd l2 a3)).f1))).setCell ⟨gb135, 2, none⟩ (.int .i64 ((rd_T100 l1 (rd l2 a3)).f2))).setCell ⟨gb135, 3, none⟩ (.int .i64 ((rd_T100 l1 (rd l2 a3)).f3))).setCell ⟨gb135, 4, none⟩ (.slice A134_4 ((rd_T100 l1 (rd l2 a3)).f4).length c134_4))).cell? _ = some _ from hx136_0)); (try have hy136_1 := fun (n_ : Nat) => (show (((((((w28.drewN n_).setCell ⟨gb135, 0, none⟩ (.string ((rd_T100 l1 (rd l2 a3)).f0))).setCell ⟨gb135, 1, none⟩ (.int .i64 ((rd_T100 l1 (rd l2 a3)).f1))).setCell ⟨gb135, 2, none⟩ (.int .i64 ((rd_T100 l1 (rd l2 a3)).f2))).setCell ⟨gb135, 3, none⟩ (.int .i64 ((rd_T100 l1 (rd l2 a3)).f3))).setCell ⟨gb135, 4, none⟩ (.slice A134_4 ((rd_T100 l1 (rd l2 a3)).f4).length c134_4))).cell? _ = some _ from hx136_1)); (try have hy136_2 := fun (n_ : Nat) => (show (((((((w28.drewN n_).setCell ⟨gb135, 0, none⟩ (.string ((rd_T100 l1 (rd l2 a3)).f0))).setCell ⟨gb135, 1, none⟩ (.int .i64 ((rd_T100 l1 (rd l2 a3)).f1))).setCell ⟨gb135, 2, none⟩ (.int .i64 ((rd_T100 l1 (rd l2 a3)).f2))).setCell ⟨gb135, 3, none⟩ (.int .i64 ((rd_T100 l1 (rd l2 a3)).f3))).setCell ⟨gb135, 4, none⟩ (.slice A134_4 ((rd_T100 l1 (rd l2 a3)).f4).length c134_4))).cell? _ = some _ from hx136_2)); clear hn136_0 hn136_1; clear hn136_2 hn136_3 hn136_4; replace p136 := eq_true p136; replace q136 := eq_true q136) | (go_at_call 78; (with_reducible refine (spec_l00Has.calls k _ _ ((rd_T100 l1 (rd l2 a3)).f4) ((rd_T98 l0 a3).f2) false _ ?side1 ?side2 A10.out).mono ?_); (case side1 => exact zH32); (case side2 => exact HC134_4.out); rintro e w' ⟨rfl, ⟨nd, rfl⟩⟩; (try first | exact ⟨rfl, _, World.drewN_drewN _ _ _⟩ | exact ⟨rfl, _, Eq.trans (World.drewN_drewN _ _ _) (congrArg (World.drewN _) (Nat.add_assoc _ _ _))⟩)))
  repeat (go_quiet (first | ((with_reducible refine gate_dst (N := 9) rfl ?_); refine box_event ?hg (N := 9) ?hd (cs := #[.string (⟨#[]⟩ : ByteArray), .int .i64 0, .int .i64 0, .int .i64 0, .slice none 0 0]) (t := 100) ?hr ?_; (case hd => rfl); (case hg => rfl); (case hr => exact zH100); intro gb135 hg w28 hbox hb; have n_ := zA_ (zb (zq zG76 hb)) (zA_ (zb (hbox)) (zA_ (zb ((by rw [hg]; exact (zo zG76) : w.heap.size ≤ gb135))) (zb ((by rw [hg]; exact (zo zG76) : w.heap.size ≤ gb135))))); clear HB; obtain ⟨HB, BK135, GW135, GE135⟩ := n_; clear hb hbox hg; have hcz29_0 : w28.cell? ⟨gb135, 0, none⟩ = some (.string (⟨#[]⟩ : ByteArray)) := (zg BK135.out 0).trans rfl; have hcz29_1 : w28.cell? ⟨gb135, 1, none⟩ = some (.int .i64 0) := (zg BK135.out 1).trans rfl; have hcz29_2 : w28.cell? ⟨gb135, 2, none⟩ = some (.int .i64 0) := (zg BK135.out 2).trans rfl; have hcz29_3 : w28.cell? ⟨gb135, 3, none⟩ = some (.int .i64 0) := (zg BK135.out 3).trans rfl; have hcz29_4 : w28.cell? ⟨gb135, 4, none⟩ = some (.slice none 0 0) := (zg BK135.out 4).trans rfl; have hfz29_0 := zf BK135.out 0; have hfz29_1 := zf BK135.out 1; have hfz29_2 := zf BK135.out 2; have hfz29_3 := zf BK135.out 3; have hfz29_4 := zf BK135.out 4; have p136 : 0 ≤ (a3 : Int) := zO; have q136 : a3 < (l0.length : Int) := zO; obtain ⟨ad136, e136, hx136_0, hx136_1, hx136_2⟩ := at_T98 HR0.out a3 p136 q136; cases e136; have hn136_0 : ad136.block ≠ gb135 := Nat.ne_of_lt (Nat.lt_of_lt_of_le zG86 GW135.out); have hn136_1 : ad136.block ≠ gb135 := Nat.ne_of_lt (Nat.lt_of_lt_of_le zG86 GW135.out); have hn136_2 : ad136.block ≠ gb135 := Nat.ne_of_lt (Nat.lt_of_lt_of_le zG86 GW135.out); have hn136_3 : ad136.block ≠ gb135 := Nat.ne_of_lt (Nat.lt_of_lt_of_le zG86 GW135.out); have hn136_4 : ad136.block ≠ gb135 := Nat.ne_of_lt (Nat.lt_of_lt_of_le zG86 GW135.out); replace hx136_0 := (HB.out.cell (za w _ hx136_0)).trans hx136_0; replace hx136_1 := (HB.out.cell (za w _ hx136_1)).trans hx136_1; replace hx136_2 := (HB.out.cell (za w _ hx136_2)).trans hx136_2; replace hx136_0 := (cell_far (p := ⟨gb135, 0, none⟩) zG71 (.string ((rd_T100 l1 (rd l2 a3)).f0))).trans hx136_0; replace hx136_1 := (cell_far (p := ⟨gb135, 0, none⟩) zG71 (.string ((rd_T100 l1 (rd l2 a3)).f0))).trans hx136_1; replace hx136_2 := (cell_far (p := ⟨gb135, 0, none⟩) zG71 (.string ((rd_T100 l1 (rd l2 a3)).f0))).trans hx136_2; replace hx136_0 := (cell_far (p := ⟨gb135, 1, none⟩) zG72 (.int .i64 ((rd_T100 l1 (rd l2 a3)).f1))).trans hx136_0; replace hx136_1 := (cell_far (p := ⟨gb135, 1, none⟩) zG72 (.int .i64 ((rd_T100 l1 (rd l2 a3)).f1))).trans hx136_1; replace hx136_2 := (cell_far (p := ⟨gb135, 1, none⟩) zG72 (.int .i64 ((rd_T100 l1 (rd l2 a3)).f1))).trans hx136_2; replace hx136_0 := (cell_far (p := ⟨gb135, 2, none⟩) zG73 (.int .i64 ((rd_T100 l1 (rd l2 a3)).f2))).trans hx136_0; replace hx136_1 := (cell_far (p := ⟨gb135, 2, none⟩) zG73 (.int .i64 ((rd_T100 l1 (rd l2 a3)).f2))).trans hx136_1; replace hx136_2 := (cell_far (p := ⟨gb135, 2, none⟩) zG73 (.int .i64 ((rd_T100 l1 (rd l2 a3)).f2))).trans hx136_2; replace hx136_0 := (cell_far (p := ⟨gb135, 3, none⟩) zG74 (.int .i64 ((rd_T100 l1 (rd l2 a3)).f3))).trans hx136_0; replace hx136_1 := (cell_far (p := ⟨gb135, 3, none⟩) zG74 (.int .i64 ((rd_T100 l1 (rd l2 a3)).f3))).trans hx136_1; replace hx136_2 := (cell_far (p := ⟨gb135, 3, none⟩) zG74 (.int .i64 ((rd_T100 l1 (rd l2 a3)).f3))).trans hx136_2; replace hx136_0 := (cell_far (p := ⟨gb135, 4, none⟩) zG75 (.slice A134_4 ((rd_T100 l1 (rd l2 a3)).f4).length c134_4)).trans hx136_0; replace hx136_1 := (cell_far (p := ⟨gb135, 4, none⟩) zG75 (.slice A134_4 ((rd_T100 l1 (rd l2 a3)).f4).length c134_4)).trans hx136_1; replace hx136_2 := (cell_far (p := ⟨gb135, 4, none⟩) zG75 (.slice A134_4 ((rd_T100 l1 (rd l2 a3)).f4).length c134_4)).trans hx136_2; (try have hy136_0 := fun (n_ : Nat) => (show (((((((w28.drewN n_).setCell ⟨gb135, 0, none⟩ (.string ((rd_T100 l1 (rd l2 a3)).f0))).setCell ⟨gb135, 1, none⟩ (.int .i64 ((rd_T100 l1 (rd l2 a3)).f1))).setCell ⟨gb135, 2, none⟩ (.int .i64 ((rd_T100 l1 (rd l2 a3)).f2))).setCell ⟨gb135, 3, none⟩ (.int .i64 ((rd_T100 l1 (rd l2 a3)).f3))).setCell ⟨gb135, 4, none⟩ (.slice A134_4 ((rd_T100 l1 (rd l2 a3)).f4).length c134_4))).cell? _ = some _ from hx136_0)); (try have hy136_1 := fun (n_ : Nat) => (show (((((((w28.drewN n_).setCell ⟨gb135, 0, none⟩ (.string ((rd_T100 l1 (rd l2 a3)).f0))).setCell ⟨gb135, 1, none⟩ (.int .i64 ((rd_T100 l1 (rd l2 a3)).f1))).setCell ⟨gb135, 2, none⟩ (.int .i64 ((rd_T100 l1 (rd l2 a3)).f2))).setCell ⟨gb135, 3, none⟩ (.int .i64 ((rd_T100 l1 (rd l2 a3)).f3))).setCell ⟨gb135, 4, none⟩ (.slice A134_4 ((rd_T100 l1 (rd l2 a3)).f4).length c134_4))).cell? _ = some _ from hx136_1)); (try have hy136_2 := fun (n_ : Nat) => (show (((((((w28.drewN n_).setCell ⟨gb135, 0, none⟩ (.string ((rd_T100 l1 (rd l2 a3)).f0))).setCell ⟨gb135, 1, none⟩ (.int .i64 ((rd_T100 l1 (rd l2 a3)).f1))).setCell ⟨gb135, 2, none⟩ (.int .i64 ((rd_T100 l1 (rd l2 a3)).f2))).setCell ⟨gb135, 3, none⟩ (.int .i64 ((rd_T100 l1 (rd l2 a3)).f3))).setCell ⟨gb135, 4, none⟩ (.slice A134_4 ((rd_T100 l1 (rd l2 a3)).f4).length c134_4))).cell? _ = some _ from hx136_2)); clear hn136_0 hn136_1; clear hn136_2 hn136_3 hn136_4; replace p136 := eq_true p136; replace q136 := eq_true q136) | (go_at_call 78; (with_reducible refine (spec_l00Has.calls k _ _ ((rd_T100 l1 (rd l2 a3)).f4) ((rd_T98 l0 a3).f2) false _ ?side1 ?side2 A10.out).mono ?_); (case side1 => exact zH32); (case side2 => exact HC134_4.out); rintro e w' ⟨rfl, ⟨nd, rfl⟩⟩; (try first | exact ⟨rfl, _, World.drewN_drewN _ _ _⟩ | exact ⟨rfl, _, Eq.trans (World.drewN_drewN _ _ _) (congrArg (World.drewN _) (Nat.add_assoc _ _ _))⟩))); try go_wp2_with (first | ((with_reducible refine gate_dst (N := 9) rfl ?_); refine box_event ?hg (N := 9) ?hd (cs := #[.string (⟨#[]⟩ : ByteArray), .int .i64 0, .int .i64 0, .int .i64 0, .slice none 0 0]) (t := 100) ?hr ?_; (case hd => rfl); (case hg => rfl); (case hr => exact zH100); intro gb135 hg w28 hbox hb; have n_ := zA_ (zb (zq zG76 hb)) (zA_ (zb (hbox)) (zA_ (zb ((by rw [hg]; exact (zo zG76) : w.heap.size ≤ gb135))) (zb ((by rw [hg]; exact (zo zG76) : w.heap.size ≤ gb135))))); clear HB; obtain ⟨HB, BK135, GW135, GE135⟩ := n_; clear hb hbox hg; have hcz29_0 : w28.cell? ⟨gb135, 0, none⟩ = some (.string (⟨#[]⟩ : ByteArray)) := (zg BK135.out 0).trans rfl; have hcz29_1 : w28.cell? ⟨gb135, 1, none⟩ = some (.int .i64 0) := (zg BK135.out 1).trans rfl; have hcz29_2 : w28.cell? ⟨gb135, 2, none⟩ = some (.int .i64 0) := (zg BK135.out 2).trans rfl; have hcz29_3 : w28.cell? ⟨gb135, 3, none⟩ = some (.int .i64 0) := (zg BK135.out 3).trans rfl; have hcz29_4 : w28.cell? ⟨gb135, 4, none⟩ = some (.slice none 0 0) := (zg BK135.out 4).trans rfl; have hfz29_0 := zf BK135.out 0; have hfz29_1 := zf BK135.out 1; have hfz29_2 := zf BK135.out 2; have hfz29_3 := zf BK135.out 3; have hfz29_4 := zf BK135.out 4; have p136 : 0 ≤ (a3 : Int) := zO; have q136 : a3 < (l0.length : Int) := zO; obtain ⟨ad136, e136, hx136_0, hx136_1, hx136_2⟩ := at_T98 HR0.out a3 p136 q136; cases e136; have hn136_0 : ad136.block ≠ gb135 := Nat.ne_of_lt (Nat.lt_of_lt_of_le zG86 GW135.out); have hn136_1 : ad136.block ≠ gb135 := Nat.ne_of_lt (Nat.lt_of_lt_of_le zG86 GW135.out); have hn136_2 : ad136.block ≠ gb135 := Nat.ne_of_lt (Nat.lt_of_lt_of_le zG86 GW135.out); have hn136_3 : ad136.block ≠ gb135 := Nat.ne_of_lt (Nat.lt_of_lt_of_le zG86 GW135.out); have hn136_4 : ad136.block ≠ gb135 := Nat.ne_of_lt (Nat.lt_of_lt_of_le zG86 GW135.out); replace hx136_0 := (HB.out.cell (za w _ hx136_0)).trans hx136_0; replace hx136_1 := (HB.out.cell (za w _ hx136_1)).trans hx136_1; replace hx136_2 := (HB.out.cell (za w _ hx136_2)).trans hx136_2; replace hx136_0 := (cell_far (p := ⟨gb135, 0, none⟩) zG71 (.string ((rd_T100 l1 (rd l2 a3)).f0))).trans hx136_0; replace hx136_1 := (cell_far (p := ⟨gb135, 0, none⟩) zG71 (.string ((rd_T100 l1 (rd l2 a3)).f0))).trans hx136_1; replace hx136_2 := (cell_far (p := ⟨gb135, 0, none⟩) zG71 (.string ((rd_T100 l1 (rd l2 a3)).f0))).trans hx136_2; replace hx136_0 := (cell_far (p := ⟨gb135, 1, none⟩) zG72 (.int .i64 ((rd_T100 l1 (rd l2 a3)).f1))).trans hx136_0; replace hx136_1 := (cell_far (p := ⟨gb135, 1, none⟩) zG72 (.int .i64 ((rd_T100 l1 (rd l2 a3)).f1))).trans hx136_1; replace hx136_2 := (cell_far (p := ⟨gb135, 1, none⟩) zG72 (.int .i64 ((rd_T100 l1 (rd l2 a3)).f1))).trans hx136_2; replace hx136_0 := (cell_far (p := ⟨gb135, 2, none⟩) zG73 (.int .i64 ((rd_T100 l1 (rd l2 a3)).f2))).trans hx136_0; replace hx136_1 := (cell_far (p := ⟨gb135, 2, none⟩) zG73 (.int .i64 ((rd_T100 l1 (rd l2 a3)).f2))).trans hx136_1; replace hx136_2 := (cell_far (p := ⟨gb135, 2, none⟩) zG73 (.int .i64 ((rd_T100 l1 (rd l2 a3)).f2))).trans hx136_2; replace hx136_0 := (cell_far (p := ⟨gb135, 3, none⟩) zG74 (.int .i64 ((rd_T100 l1 (rd l2 a3)).f3))).trans hx136_0; replace hx136_1 := (cell_far (p := ⟨gb135, 3, none⟩) zG74 (.int .i64 ((rd_T100 l1 (rd l2 a3)).f3))).trans hx136_1; replace hx136_2 := (cell_far (p := ⟨gb135, 3, none⟩) zG74 (.int .i64 ((rd_T100 l1 (rd l2 a3)).f3))).trans hx136_2; replace hx136_0 := (cell_far (p := ⟨gb135, 4, none⟩) zG75 (.slice A134_4 ((rd_T100 l1 (rd l2 a3)).f4).length c134_4)).trans hx136_0; replace hx136_1 := (cell_far (p := ⟨gb135, 4, none⟩) zG75 (.slice A134_4 ((rd_T100 l1 (rd l2 a3)).f4).length c134_4)).trans hx136_1; replace hx136_2 := (cell_far (p := ⟨gb135, 4, none⟩) zG75 (.slice A134_4 ((rd_T100 l1 (rd l2 a3)).f4).length c134_4)).trans hx136_2; (try have hy136_0 := fun (n_ : Nat) => (show (((((((w28.drewN n_).setCell ⟨gb135, 0, none⟩ (.string ((rd_T100 l1 (rd l2 a3)).f0))).setCell ⟨gb135, 1, none⟩ (.int .i64 ((rd_T100 l1 (rd l2 a3)).f1))).setCell ⟨gb135, 2, none⟩ (.int .i64 ((rd_T100 l1 (rd l2 a3)).f2))).setCell ⟨gb135, 3, none⟩ (.int .i64 ((rd_T100 l1 (rd l2 a3)).f3))).setCell ⟨gb135, 4, none⟩ (.slice A134_4 ((rd_T100 l1 (rd l2 a3)).f4).length c134_4))).cell? _ = some _ from hx136_0)); (try have hy136_1 := fun (n_ : Nat) => (show (((((((w28.drewN n_).setCell ⟨gb135, 0, none⟩ (.string ((rd_T100 l1 (rd l2 a3)).f0))).setCell ⟨gb135, 1, none⟩ (.int .i64 ((rd_T100 l1 (rd l2 a3)).f1))).setCell ⟨gb135, 2, none⟩ (.int .i64 ((rd_T100 l1 (rd l2 a3)).f2))).setCell ⟨gb135, 3, none⟩ (.int .i64 ((rd_T100 l1 (rd l2 a3)).f3))).setCell ⟨gb135, 4, none⟩ (.slice A134_4 ((rd_T100 l1 (rd l2 a3)).f4).length c134_4))).cell? _ = some _ from hx136_1)); (try have hy136_2 := fun (n_ : Nat) => (show (((((((w28.drewN n_).setCell ⟨gb135, 0, none⟩ (.string ((rd_T100 l1 (rd l2 a3)).f0))).setCell ⟨gb135, 1, none⟩ (.int .i64 ((rd_T100 l1 (rd l2 a3)).f1))).setCell ⟨gb135, 2, none⟩ (.int .i64 ((rd_T100 l1 (rd l2 a3)).f2))).setCell ⟨gb135, 3, none⟩ (.int .i64 ((rd_T100 l1 (rd l2 a3)).f3))).setCell ⟨gb135, 4, none⟩ (.slice A134_4 ((rd_T100 l1 (rd l2 a3)).f4).length c134_4))).cell? _ = some _ from hx136_2)); clear hn136_0 hn136_1; clear hn136_2 hn136_3 hn136_4; replace p136 := eq_true p136; replace q136 := eq_true q136) | (go_at_call 78; (with_reducible refine (spec_l00Has.calls k _ _ ((rd_T100 l1 (rd l2 a3)).f4) ((rd_T98 l0 a3).f2) false _ ?side1 ?side2 A10.out).mono ?_); (case side1 => exact zH32); (case side2 => exact HC134_4.out); rintro e w' ⟨rfl, ⟨nd, rfl⟩⟩; (try first | exact ⟨rfl, _, World.drewN_drewN _ _ _⟩ | exact ⟨rfl, _, Eq.trans (World.drewN_drewN _ _ _) (congrArg (World.drewN _) (Nat.add_assoc _ _ _))⟩))))
  go_ret
  exact zH21
 subst c11
 have H1 : (spec_l21Code.l0 k l0 l2 a3 (wrap64 (((rd_T98 l0 a3).f1) - ((rd_T98 l0 a3).f0))) false 0 ((rd_T100 l1 (rd l2 a3)).f0) ((rd_T100 l1 (rd l2 a3)).f1) ((rd_T100 l1 (rd l2 a3)).f2) ((rd_T100 l1 (rd l2 a3)).f3) ((rd_T100 l1 (rd l2 a3)).f4)) = some r := by rw [if_pos rfl] at H; exact H
 clear H
 have H := H1
 clear H1
 have H' := zb H
 clear H
 have p133 : 0 ≤ (a3 : Int) := zO
 have q133 : a3 < (l2.length : Int) := zO
 obtain ⟨ad133, e133, hx133_0⟩ := zaj HR2.out a3 p133 q133
 cases e133
 replace p133 := eq_true p133
 replace q133 := eq_true q133
 have p134 : 0 ≤ ((rd l2 a3) : Int) := zO
 have q134 : (rd l2 a3) < (l1.length : Int) := zO
 obtain ⟨ad134, A134_4, c134_4, e134, hx134_0, hx134_1, hx134_2, hx134_3, hx134_4, hl134_4, hi134_4⟩ := at_T100 HR1.out (rd l2 a3) p134 q134
 cases e134
 have HR134_4 := zb hi134_4
 have HC134_4 := zb hl134_4
 clear hi134_4 hl134_4
 replace p134 := eq_true p134
 replace q134 := eq_true q134
 go_enter Try.func54, Try.ntmps54
 go_wp2_with (first | ((with_reducible refine gate_dst (N := 9) rfl ?_); refine box_event ?hg (N := 9) ?hd (cs := #[.string (⟨#[]⟩ : ByteArray), .int .i64 0, .int .i64 0, .int .i64 0, .slice none 0 0]) (t := 100) ?hr ?_; (case hd => rfl); (case hg => rfl); (case hr => exact zH100); intro gb135 hg w12 hbox hb; have n_ := zA_ (zb (zq zG76 hb)) (zA_ (zb (hbox)) (zA_ (zb ((by rw [hg]; exact (zo zG76) : w.heap.size ≤ gb135))) (zb ((by rw [hg]; exact (zo zG76) : w.heap.size ≤ gb135))))); clear HB; obtain ⟨HB, BK135, GW135, GE135⟩ := n_; clear hb hbox hg; have hcz13_0 : w12.cell? ⟨gb135, 0, none⟩ = some (.string (⟨#[]⟩ : ByteArray)) := (zg BK135.out 0).trans rfl; have hcz13_1 : w12.cell? ⟨gb135, 1, none⟩ = some (.int .i64 0) := (zg BK135.out 1).trans rfl; have hcz13_2 : w12.cell? ⟨gb135, 2, none⟩ = some (.int .i64 0) := (zg BK135.out 2).trans rfl; have hcz13_3 : w12.cell? ⟨gb135, 3, none⟩ = some (.int .i64 0) := (zg BK135.out 3).trans rfl; have hcz13_4 : w12.cell? ⟨gb135, 4, none⟩ = some (.slice none 0 0) := (zg BK135.out 4).trans rfl; have hfz13_0 := zf BK135.out 0; have hfz13_1 := zf BK135.out 1; have hfz13_2 := zf BK135.out 2; have hfz13_3 := zf BK135.out 3; have hfz13_4 := zf BK135.out 4; have p136 : 0 ≤ (a3 : Int) := zO; have q136 : a3 < (l0.length : Int) := zO; obtain ⟨ad136, e136, hx136_0, hx136_1, hx136_2⟩ := at_T98 HR0.out a3 p136 q136; cases e136; have hn136_0 : ad136.block ≠ gb135 := Nat.ne_of_lt (Nat.lt_of_lt_of_le zG86 GW135.out); have hn136_1 : ad136.block ≠ gb135 := Nat.ne_of_lt (Nat.lt_of_lt_of_le zG86 GW135.out); have hn136_2 : ad136.block ≠ gb135 := Nat.ne_of_lt (Nat.lt_of_lt_of_le zG86 GW135.out); have hn136_3 : ad136.block ≠ gb135 := Nat.ne_of_lt (Nat.lt_of_lt_of_le zG86 GW135.out); have hn136_4 : ad136.block ≠ gb135 := Nat.ne_of_lt (Nat.lt_of_lt_of_le zG86 GW135.out); replace hx136_0 := (HB.out.cell (za w _ hx136_0)).trans hx136_0; replace hx136_1 := (HB.out.cell (za w _ hx136_1)).trans hx136_1; replace hx136_2 := (HB.out.cell (za w _ hx136_2)).trans hx136_2; replace hx136_0 := (cell_far (p := ⟨gb135, 0, none⟩) zG71 (.string ((rd_T100 l1 (rd l2 a3)).f0))).trans hx136_0; replace hx136_1 := (cell_far (p := ⟨gb135, 0, none⟩) zG71 (.string ((rd_T100 l1 (rd l2 a3)).f0))).trans hx136_1; replace hx136_2 := (cell_far (p := ⟨gb135, 0, none⟩) zG71 (.string ((rd_T100 l1 (rd l2 a3)).f0))).trans hx136_2; replace hx136_0 := (cell_far (p := ⟨gb135, 1, none⟩) zG72 (.int .i64 ((rd_T100 l1 (rd l2 a3)).f1))).trans hx136_0; replace hx136_1 := (cell_far (p := ⟨gb135, 1, none⟩) zG72 (.int .i64 ((rd_T100 l1 (rd l2 a3)).f1))).trans hx136_1; replace hx136_2 := (cell_far (p := ⟨gb135, 1, none⟩) zG72 (.int .i64 ((rd_T100 l1 (rd l2 a3)).f1))).trans hx136_2; replace hx136_0 := (cell_far (p := ⟨gb135, 2, none⟩) zG73 (.int .i64 ((rd_T100 l1 (rd l2 a3)).f2))).trans hx136_0; replace hx136_1 := (cell_far (p := ⟨gb135, 2, none⟩) zG73 (.int .i64 ((rd_T100 l1 (rd l2 a3)).f2))).trans hx136_1; replace hx136_2 := (cell_far (p := ⟨gb135, 2, none⟩) zG73 (.int .i64 ((rd_T100 l1 (rd l2 a3)).f2))).trans hx136_2; replace hx136_0 := (cell_far (p := ⟨gb135, 3, none⟩) zG74 (.int .i64 ((rd_T100 l1 (rd l2 a3)).f3))).trans hx136_0; replace hx136_1 := (cell_far (p := ⟨gb135, 3, none⟩) zG74 (.int .i64 ((rd_T100 l1 (rd l2 a3)).f3))).trans hx136_1; replace hx136_2 := (cell_far (p := ⟨gb135, 3, none⟩) zG74 (.int .i64 ((rd_T100 l1 (rd l2 a3)).f3))).trans hx136_2; replace hx136_0 := (cell_far (p := ⟨gb135, 4, none⟩) zG75 (.slice A134_4 ((rd_T100 l1 (rd l2 a3)).f4).length c134_4)).trans hx136_0; replace hx136_1 := (cell_far (p := ⟨gb135, 4, none⟩) zG75 (.slice A134_4 ((rd_T100 l1 (rd l2 a3)).f4).length c134_4)).trans hx136_1; replace hx136_2 := (cell_far (p := ⟨gb135, 4, none⟩) zG75 (.slice A134_4 ((rd_T100 l1 (rd l2 a3)).f4).length c134_4)).trans hx136_2; (try have hy136_0 := fun (n_ : Nat) => (show (((((((w12.drewN n_).setCell ⟨gb135, 0, none⟩ (.string ((rd_T100 l1 (rd l2 a3)).f0))).setCell ⟨gb135, 1, none⟩ (.int .i64 ((rd_T100 l1 (rd l2 a3)).f1))).setCell ⟨gb135, 2, none⟩ (.int .i64 ((rd_T100 l1 (rd l2 a3)).f2))).setCell ⟨gb135, 3, none⟩ (.int .i64 ((rd_T100 l1 (rd l2 a3)).f3))).setCell ⟨gb135, 4, none⟩ (.slice A134_4 ((rd_T100 l1 (rd l2 a3)).f4).length c134_4))).cell? _ = some _ from hx136_0)); (try have hy136_1 := fun (n_ : Nat) => (show (((((((w12.drewN n_).setCell ⟨gb135, 0, none⟩ (.string ((rd_T100 l1 (rd l2 a3)).f0))).setCell ⟨gb135, 1, none⟩ (.int .i64 ((rd_T100 l1 (rd l2 a3)).f1))).setCell ⟨gb135, 2, none⟩ (.int .i64 ((rd_T100 l1 (rd l2 a3)).f2))).setCell ⟨gb135, 3, none⟩ (.int .i64 ((rd_T100 l1 (rd l2 a3)).f3))).setCell ⟨gb135, 4, none⟩ (.slice A134_4 ((rd_T100 l1 (rd l2 a3)).f4).length c134_4))).cell? _ = some _ from hx136_1)); (try have hy136_2 := fun (n_ : Nat) => (show (((((((w12.drewN n_).setCell ⟨gb135, 0, none⟩ (.string ((rd_T100 l1 (rd l2 a3)).f0))).setCell ⟨gb135, 1, none⟩ (.int .i64 ((rd_T100 l1 (rd l2 a3)).f1))).setCell ⟨gb135, 2, none⟩ (.int .i64 ((rd_T100 l1 (rd l2 a3)).f2))).setCell ⟨gb135, 3, none⟩ (.int .i64 ((rd_T100 l1 (rd l2 a3)).f3))).setCell ⟨gb135, 4, none⟩ (.slice A134_4 ((rd_T100 l1 (rd l2 a3)).f4).length c134_4))).cell? _ = some _ from hx136_2)); clear hn136_0 hn136_1; clear hn136_2 hn136_3 hn136_4; replace p136 := eq_true p136; replace q136 := eq_true q136) | (go_at_call 78; (with_reducible refine (spec_l00Has.calls k _ _ ((rd_T100 l1 (rd l2 a3)).f4) ((rd_T98 l0 a3).f2) true _ ?side1 ?side2 A10.out).mono ?_); (case side1 => exact zH32); (case side2 => exact HC134_4.out); rintro e w' ⟨rfl, ⟨nd, rfl⟩⟩; (try first | exact ⟨rfl, _, World.drewN_drewN _ _ _⟩ | exact ⟨rfl, _, Eq.trans (World.drewN_drewN _ _ _) (congrArg (World.drewN _) (Nat.add_assoc _ _ _))⟩); have p138 : 0 ≤ (a3 : Int) := zO; have q138 : a3 < (l0.length : Int) := zO; obtain ⟨ad138, e138, hx138_0, hx138_1, hx138_2⟩ := at_T98 HR0.out a3 p138 q138; obtain rfl : ad136 = ad138 := (by injection e138); have hn138_0 : ad136.block ≠ gb135 := Nat.ne_of_lt (Nat.lt_of_lt_of_le zK199 GW135.out); have hn138_1 : ad136.block ≠ gb135 := Nat.ne_of_lt (Nat.lt_of_lt_of_le zK199 GW135.out); have hn138_2 : ad136.block ≠ gb135 := Nat.ne_of_lt (Nat.lt_of_lt_of_le zK199 GW135.out); have hn138_3 : ad136.block ≠ gb135 := Nat.ne_of_lt (Nat.lt_of_lt_of_le zK199 GW135.out); have hn138_4 : ad136.block ≠ gb135 := Nat.ne_of_lt (Nat.lt_of_lt_of_le zK199 GW135.out); replace hx138_0 := (HB.out.cell (za w _ hx138_0)).trans hx138_0; replace hx138_1 := (HB.out.cell (za w _ hx138_1)).trans hx138_1; replace hx138_2 := (HB.out.cell (za w _ hx138_2)).trans hx138_2; replace hx138_0 := (cell_far (p := ⟨gb135, 0, none⟩) zK162 (.string ((rd_T100 l1 (rd l2 a3)).f0))).trans hx138_0; replace hx138_1 := (cell_far (p := ⟨gb135, 0, none⟩) zK162 (.string ((rd_T100 l1 (rd l2 a3)).f0))).trans hx138_1; replace hx138_2 := (cell_far (p := ⟨gb135, 0, none⟩) zK162 (.string ((rd_T100 l1 (rd l2 a3)).f0))).trans hx138_2; replace hx138_0 := (cell_far (p := ⟨gb135, 1, none⟩) zK163 (.int .i64 ((rd_T100 l1 (rd l2 a3)).f1))).trans hx138_0; replace hx138_1 := (cell_far (p := ⟨gb135, 1, none⟩) zK163 (.int .i64 ((rd_T100 l1 (rd l2 a3)).f1))).trans hx138_1; replace hx138_2 := (cell_far (p := ⟨gb135, 1, none⟩) zK163 (.int .i64 ((rd_T100 l1 (rd l2 a3)).f1))).trans hx138_2; replace hx138_0 := (cell_far (p := ⟨gb135, 2, none⟩) zK164 (.int .i64 ((rd_T100 l1 (rd l2 a3)).f2))).trans hx138_0; replace hx138_1 := (cell_far (p := ⟨gb135, 2, none⟩) zK164 (.int .i64 ((rd_T100 l1 (rd l2 a3)).f2))).trans hx138_1; replace hx138_2 := (cell_far (p := ⟨gb135, 2, none⟩) zK164 (.int .i64 ((rd_T100 l1 (rd l2 a3)).f2))).trans hx138_2; replace hx138_0 := (cell_far (p := ⟨gb135, 3, none⟩) zK165 (.int .i64 ((rd_T100 l1 (rd l2 a3)).f3))).trans hx138_0; replace hx138_1 := (cell_far (p := ⟨gb135, 3, none⟩) zK165 (.int .i64 ((rd_T100 l1 (rd l2 a3)).f3))).trans hx138_1; replace hx138_2 := (cell_far (p := ⟨gb135, 3, none⟩) zK165 (.int .i64 ((rd_T100 l1 (rd l2 a3)).f3))).trans hx138_2; replace hx138_0 := (cell_far (p := ⟨gb135, 4, none⟩) zK166 (.slice A134_4 ((rd_T100 l1 (rd l2 a3)).f4).length c134_4)).trans hx138_0; replace hx138_1 := (cell_far (p := ⟨gb135, 4, none⟩) zK166 (.slice A134_4 ((rd_T100 l1 (rd l2 a3)).f4).length c134_4)).trans hx138_1; replace hx138_2 := (cell_far (p := ⟨gb135, 4, none⟩) zK166 (.slice A134_4 ((rd_T100 l1 (rd l2 a3)).f4).length c134_4)).trans hx138_2; (try have hy138_0 := fun (n_ : Nat) => (show (((((((w12.drewN n_).setCell ⟨gb135, 0, none⟩ (.string ((rd_T100 l1 (rd l2 a3)).f0))).setCell ⟨gb135, 1, none⟩ (.int .i64 ((rd_T100 l1 (rd l2 a3)).f1))).setCell ⟨gb135, 2, none⟩ (.int .i64 ((rd_T100 l1 (rd l2 a3)).f2))).setCell ⟨gb135, 3, none⟩ (.int .i64 ((rd_T100 l1 (rd l2 a3)).f3))).setCell ⟨gb135, 4, none⟩ (.slice A134_4 ((rd_T100 l1 (rd l2 a3)).f4).length c134_4))).cell? _ = some _ from hx138_0)); (try have hy138_1 := fun (n_ : Nat) => (show (((((((w12.drewN n_).setCell ⟨gb135, 0, none⟩ (.string ((rd_T100 l1 (rd l2 a3)).f0))).setCell ⟨gb135, 1, none⟩ (.int .i64 ((rd_T100 l1 (rd l2 a3)).f1))).setCell ⟨gb135, 2, none⟩ (.int .i64 ((rd_T100 l1 (rd l2 a3)).f2))).setCell ⟨gb135, 3, none⟩ (.int .i64 ((rd_T100 l1 (rd l2 a3)).f3))).setCell ⟨gb135, 4, none⟩ (.slice A134_4 ((rd_T100 l1 (rd l2 a3)).f4).length c134_4))).cell? _ = some _ from hx138_1)); (try have hy138_2 := fun (n_ : Nat) => (show (((((((w12.drewN n_).setCell ⟨gb135, 0, none⟩ (.string ((rd_T100 l1 (rd l2 a3)).f0))).setCell ⟨gb135, 1, none⟩ (.int .i64 ((rd_T100 l1 (rd l2 a3)).f1))).setCell ⟨gb135, 2, none⟩ (.int .i64 ((rd_T100 l1 (rd l2 a3)).f2))).setCell ⟨gb135, 3, none⟩ (.int .i64 ((rd_T100 l1 (rd l2 a3)).f3))).setCell ⟨gb135, 4, none⟩ (.slice A134_4 ((rd_T100 l1 (rd l2 a3)).f4).length c134_4))).cell? _ = some _ from hx138_2)); clear hn138_0 hn138_1; clear hn138_2 hn138_3 hn138_4; replace p138 := eq_true p138; replace q138 := eq_true q138; have p139 : 0 ≤ (a3 : Int) := zO; have q139 : a3 < (l0.length : Int) := zO; obtain ⟨ad139, e139, hx139_0, hx139_1, hx139_2⟩ := at_T98 HR0.out a3 p139 q139; obtain rfl : ad136 = ad139 := (by injection e139); have hn139_0 : ad136.block ≠ gb135 := Nat.ne_of_lt (Nat.lt_of_lt_of_le zK200 GW135.out); have hn139_1 : ad136.block ≠ gb135 := Nat.ne_of_lt (Nat.lt_of_lt_of_le zK200 GW135.out); have hn139_2 : ad136.block ≠ gb135 := Nat.ne_of_lt (Nat.lt_of_lt_of_le zK200 GW135.out); have hn139_3 : ad136.block ≠ gb135 := Nat.ne_of_lt (Nat.lt_of_lt_of_le zK200 GW135.out); have hn139_4 : ad136.block ≠ gb135 := Nat.ne_of_lt (Nat.lt_of_lt_of_le zK200 GW135.out); replace hx139_0 := (HB.out.cell (za w _ hx139_0)).trans hx139_0; replace hx139_1 := (HB.out.cell (za w _ hx139_1)).trans hx139_1; replace hx139_2 := (HB.out.cell (za w _ hx139_2)).trans hx139_2; replace hx139_0 := (cell_far (p := ⟨gb135, 0, none⟩) zK167 (.string ((rd_T100 l1 (rd l2 a3)).f0))).trans hx139_0; replace hx139_1 := (cell_far (p := ⟨gb135, 0, none⟩) zK167 (.string ((rd_T100 l1 (rd l2 a3)).f0))).trans hx139_1; replace hx139_2 := (cell_far (p := ⟨gb135, 0, none⟩) zK167 (.string ((rd_T100 l1 (rd l2 a3)).f0))).trans hx139_2; replace hx139_0 := (cell_far (p := ⟨gb135, 1, none⟩) zK168 (.int .i64 ((rd_T100 l1 (rd l2 a3)).f1))).trans hx139_0; replace hx139_1 := (cell_far (p := ⟨gb135, 1, none⟩) zK168 (.int .i64 ((rd_T100 l1 (rd l2 a3)).f1))).trans hx139_1; replace hx139_2 := (cell_far (p := ⟨gb135, 1, none⟩) zK168 (.int .i64 ((rd_T100 l1 (rd l2 a3)).f1))).trans hx139_2; replace hx139_0 := (cell_far (p := ⟨gb135, 2, none⟩) zK169 (.int .i64 ((rd_T100 l1 (rd l2 a3)).f2))).trans hx139_0; replace hx139_1 := (cell_far (p := ⟨gb135, 2, none⟩) zK169 (.int .i64 ((rd_T100 l1 (rd l2 a3)).f2))).trans hx139_1; replace hx139_2 := (cell_far (p := ⟨gb135, 2, none⟩) zK169 (.int .i64 ((rd_T100 l1 (rd l2 a3)).f2))).trans hx139_2; replace hx139_0 := (cell_far (p := ⟨gb135, 3, none⟩) zK170 (.int .i64 ((rd_T100 l1 (rd l2 a3)).f3))).trans hx139_0; replace hx139_1 := (cell_far (p := ⟨gb135, 3, none⟩) zK170 (.int .i64 ((rd_T100 l1 (rd l2 a3)).f3))).trans hx139_1; replace hx139_2 := (cell_far (p := ⟨gb135, 3, none⟩) zK170 (.int .i64 ((rd_T100 l1 (rd l2 a3)).f3))).trans hx139_2; replace hx139_0 := (cell_far (p := ⟨gb135, 4, none⟩) zK171 (.slice A134_4 ((rd_T100 l1 (rd l2 a3)).f4).length c134_4)).trans hx139_0; replace hx139_1 := (cell_far (p := ⟨gb135, 4, none⟩) zK171 (.slice A134_4 ((rd_T100 l1 (rd l2 a3)).f4).length c134_4)).trans hx139_1; replace hx139_2 := (cell_far (p := ⟨gb135, 4, none⟩) zK171 (.slice A134_4 ((rd_T100 l1 (rd l2 a3)).f4).length c134_4)).trans hx139_2; (try have hy139_0 := fun (n_ : Nat) => (show (((((((w12.drewN n_).setCell ⟨gb135, 0, none⟩ (.string ((rd_T100 l1 (rd l2 a3)).f0))).setCell ⟨gb135, 1, none⟩ (.int .i64 ((rd_T100 l1 (rd l2 a3)).f1))).setCell ⟨gb135, 2, none⟩ (.int .i64 ((rd_T100 l1 (rd l2 a3)).f2))).setCell ⟨gb135, 3, none⟩ (.int .i64 ((rd_T100 l1 (rd l2 a3)).f3))).setCell ⟨gb135, 4, none⟩ (.slice A134_4 ((rd_T100 l1 (rd l2 a3)).f4).length c134_4))).cell? _ = some _ from hx139_0)); (try have hy139_1 := fun (n_ : Nat) => (show (((((((w12.drewN n_).setCell ⟨gb135, 0, none⟩ (.string ((rd_T100 l1 (rd l2 a3)).f0))).setCell ⟨gb135, 1, none⟩ (.int .i64 ((rd_T100 l1 (rd l2 a3)).f1))).setCell ⟨gb135, 2, none⟩ (.int .i64 ((rd_T100 l1 (rd l2 a3)).f2))).setCell ⟨gb135, 3, none⟩ (.int .i64 ((rd_T100 l1 (rd l2 a3)).f3))).setCell ⟨gb135, 4, none⟩ (.slice A134_4 ((rd_T100 l1 (rd l2 a3)).f4).length c134_4))).cell? _ = some _ from hx139_1)); (try have hy139_2 := fun (n_ : Nat) => (show (((((((w12.drewN n_).setCell ⟨gb135, 0, none⟩ (.string ((rd_T100 l1 (rd l2 a3)).f0))).setCell ⟨gb135, 1, none⟩ (.int .i64 ((rd_T100 l1 (rd l2 a3)).f1))).setCell ⟨gb135, 2, none⟩ (.int .i64 ((rd_T100 l1 (rd l2 a3)).f2))).setCell ⟨gb135, 3, none⟩ (.int .i64 ((rd_T100 l1 (rd l2 a3)).f3))).setCell ⟨gb135, 4, none⟩ (.slice A134_4 ((rd_T100 l1 (rd l2 a3)).f4).length c134_4))).cell? _ = some _ from hx139_2)); clear hn139_0 hn139_1; clear hn139_2 hn139_3 hn139_4; replace p139 := eq_true p139; replace q139 := eq_true q139))
 repeat (go_quiet (first | ((with_reducible refine gate_dst (N := 9) rfl ?_); refine box_event ?hg (N := 9) ?hd (cs := #[.string (⟨#[]⟩ : ByteArray), .int .i64 0, .int .i64 0, .int .i64 0, .slice none 0 0]) (t := 100) ?hr ?_; (case hd => rfl); (case hg => rfl); (case hr => exact zH100); intro gb135 hg w12 hbox hb; have n_ := zA_ (zb (zq zG76 hb)) (zA_ (zb (hbox)) (zA_ (zb ((by rw [hg]; exact (zo zG76) : w.heap.size ≤ gb135))) (zb ((by rw [hg]; exact (zo zG76) : w.heap.size ≤ gb135))))); clear HB; obtain ⟨HB, BK135, GW135, GE135⟩ := n_; clear hb hbox hg; have hcz13_0 : w12.cell? ⟨gb135, 0, none⟩ = some (.string (⟨#[]⟩ : ByteArray)) := (zg BK135.out 0).trans rfl; have hcz13_1 : w12.cell? ⟨gb135, 1, none⟩ = some (.int .i64 0) := (zg BK135.out 1).trans rfl; have hcz13_2 : w12.cell? ⟨gb135, 2, none⟩ = some (.int .i64 0) := (zg BK135.out 2).trans rfl; have hcz13_3 : w12.cell? ⟨gb135, 3, none⟩ = some (.int .i64 0) := (zg BK135.out 3).trans rfl; have hcz13_4 : w12.cell? ⟨gb135, 4, none⟩ = some (.slice none 0 0) := (zg BK135.out 4).trans rfl; have hfz13_0 := zf BK135.out 0; have hfz13_1 := zf BK135.out 1; have hfz13_2 := zf BK135.out 2; have hfz13_3 := zf BK135.out 3; have hfz13_4 := zf BK135.out 4; have p136 : 0 ≤ (a3 : Int) := zO; have q136 : a3 < (l0.length : Int) := zO; obtain ⟨ad136, e136, hx136_0, hx136_1, hx136_2⟩ := at_T98 HR0.out a3 p136 q136; cases e136; have hn136_0 : ad136.block ≠ gb135 := Nat.ne_of_lt (Nat.lt_of_lt_of_le zG86 GW135.out); have hn136_1 : ad136.block ≠ gb135 := Nat.ne_of_lt (Nat.lt_of_lt_of_le zG86 GW135.out); have hn136_2 : ad136.block ≠ gb135 := Nat.ne_of_lt (Nat.lt_of_lt_of_le zG86 GW135.out); have hn136_3 : ad136.block ≠ gb135 := Nat.ne_of_lt (Nat.lt_of_lt_of_le zG86 GW135.out); have hn136_4 : ad136.block ≠ gb135 := Nat.ne_of_lt (Nat.lt_of_lt_of_le zG86 GW135.out); replace hx136_0 := (HB.out.cell (za w _ hx136_0)).trans hx136_0; replace hx136_1 := (HB.out.cell (za w _ hx136_1)).trans hx136_1; replace hx136_2 := (HB.out.cell (za w _ hx136_2)).trans hx136_2; replace hx136_0 := (cell_far (p := ⟨gb135, 0, none⟩) zG71 (.string ((rd_T100 l1 (rd l2 a3)).f0))).trans hx136_0; replace hx136_1 := (cell_far (p := ⟨gb135, 0, none⟩) zG71 (.string ((rd_T100 l1 (rd l2 a3)).f0))).trans hx136_1; replace hx136_2 := (cell_far (p := ⟨gb135, 0, none⟩) zG71 (.string ((rd_T100 l1 (rd l2 a3)).f0))).trans hx136_2; replace hx136_0 := (cell_far (p := ⟨gb135, 1, none⟩) zG72 (.int .i64 ((rd_T100 l1 (rd l2 a3)).f1))).trans hx136_0; replace hx136_1 := (cell_far (p := ⟨gb135, 1, none⟩) zG72 (.int .i64 ((rd_T100 l1 (rd l2 a3)).f1))).trans hx136_1; replace hx136_2 := (cell_far (p := ⟨gb135, 1, none⟩) zG72 (.int .i64 ((rd_T100 l1 (rd l2 a3)).f1))).trans hx136_2; replace hx136_0 := (cell_far (p := ⟨gb135, 2, none⟩) zG73 (.int .i64 ((rd_T100 l1 (rd l2 a3)).f2))).trans hx136_0; replace hx136_1 := (cell_far (p := ⟨gb135, 2, none⟩) zG73 (.int .i64 ((rd_T100 l1 (rd l2 a3)).f2))).trans hx136_1; replace hx136_2 := (cell_far (p := ⟨gb135, 2, none⟩) zG73 (.int .i64 ((rd_T100 l1 (rd l2 a3)).f2))).trans hx136_2; replace hx136_0 := (cell_far (p := ⟨gb135, 3, none⟩) zG74 (.int .i64 ((rd_T100 l1 (rd l2 a3)).f3))).trans hx136_0; replace hx136_1 := (cell_far (p := ⟨gb135, 3, none⟩) zG74 (.int .i64 ((rd_T100 l1 (rd l2 a3)).f3))).trans hx136_1; replace hx136_2 := (cell_far (p := ⟨gb135, 3, none⟩) zG74 (.int .i64 ((rd_T100 l1 (rd l2 a3)).f3))).trans hx136_2; replace hx136_0 := (cell_far (p := ⟨gb135, 4, none⟩) zG75 (.slice A134_4 ((rd_T100 l1 (rd l2 a3)).f4).length c134_4)).trans hx136_0; replace hx136_1 := (cell_far (p := ⟨gb135, 4, none⟩) zG75 (.slice A134_4 ((rd_T100 l1 (rd l2 a3)).f4).length c134_4)).trans hx136_1; replace hx136_2 := (cell_far (p := ⟨gb135, 4, none⟩) zG75 (.slice A134_4 ((rd_T100 l1 (rd l2 a3)).f4).length c134_4)).trans hx136_2; (try have hy136_0 := fun (n_ : Nat) => (show (((((((w12.drewN n_).setCell ⟨gb135, 0, none⟩ (.string ((rd_T100 l1 (rd l2 a3)).f0))).setCell ⟨gb135, 1, none⟩ (.int .i64 ((rd_T100 l1 (rd l2 a3)).f1))).setCell ⟨gb135, 2, none⟩ (.int .i64 ((rd_T100 l1 (rd l2 a3)).f2))).setCell ⟨gb135, 3, none⟩ (.int .i64 ((rd_T100 l1 (rd l2 a3)).f3))).setCell ⟨gb135, 4, none⟩ (.slice A134_4 ((rd_T100 l1 (rd l2 a3)).f4).length c134_4))).cell? _ = some _ from hx136_0)); (try have hy136_1 := fun (n_ : Nat) => (show (((((((w12.drewN n_).setCell ⟨gb135, 0, none⟩ (.string ((rd_T100 l1 (rd l2 a3)).f0))).setCell ⟨gb135, 1, none⟩ (.int .i64 ((rd_T100 l1 (rd l2 a3)).f1))).setCell ⟨gb135, 2, none⟩ (.int .i64 ((rd_T100 l1 (rd l2 a3)).f2))).setCell ⟨gb135, 3, none⟩ (.int .i64 ((rd_T100 l1 (rd l2 a3)).f3))).setCell ⟨gb135, 4, none⟩ (.slice A134_4 ((rd_T100 l1 (rd l2 a3)).f4).length c134_4))).cell? _ = some _ from hx136_1)); (try have hy136_2 := fun (n_ : Nat) => (show (((((((w12.drewN n_).setCell ⟨gb135, 0, none⟩ (.string ((rd_T100 l1 (rd l2 a3)).f0))).setCell ⟨gb135, 1, none⟩ (.int .i64 ((rd_T100 l1 (rd l2 a3)).f1))).setCell ⟨gb135, 2, none⟩ (.int .i64 ((rd_T100 l1 (rd l2 a3)).f2))).setCell ⟨gb135, 3, none⟩ (.int .i64 ((rd_T100 l1 (rd l2 a3)).f3))).setCell ⟨gb135, 4, none⟩ (.slice A134_4 ((rd_T100 l1 (rd l2 a3)).f4).length c134_4))).cell? _ = some _ from hx136_2)); clear hn136_0 hn136_1; clear hn136_2 hn136_3 hn136_4; replace p136 := eq_true p136; replace q136 := eq_true q136) | (go_at_call 78; (with_reducible refine (spec_l00Has.calls k _ _ ((rd_T100 l1 (rd l2 a3)).f4) ((rd_T98 l0 a3).f2) true _ ?side1 ?side2 A10.out).mono ?_); (case side1 => exact zH32); (case side2 => exact HC134_4.out); rintro e w' ⟨rfl, ⟨nd, rfl⟩⟩; (try first | exact ⟨rfl, _, World.drewN_drewN _ _ _⟩ | exact ⟨rfl, _, Eq.trans (World.drewN_drewN _ _ _) (congrArg (World.drewN _) (Nat.add_assoc _ _ _))⟩); have p138 : 0 ≤ (a3 : Int) := zO; have q138 : a3 < (l0.length : Int) := zO; obtain ⟨ad138, e138, hx138_0, hx138_1, hx138_2⟩ := at_T98 HR0.out a3 p138 q138; obtain rfl : ad136 = ad138 := (by injection e138); have hn138_0 : ad136.block ≠ gb135 := Nat.ne_of_lt (Nat.lt_of_lt_of_le zK199 GW135.out); have hn138_1 : ad136.block ≠ gb135 := Nat.ne_of_lt (Nat.lt_of_lt_of_le zK199 GW135.out); have hn138_2 : ad136.block ≠ gb135 := Nat.ne_of_lt (Nat.lt_of_lt_of_le zK199 GW135.out); have hn138_3 : ad136.block ≠ gb135 := Nat.ne_of_lt (Nat.lt_of_lt_of_le zK199 GW135.out); have hn138_4 : ad136.block ≠ gb135 := Nat.ne_of_lt (Nat.lt_of_lt_of_le zK199 GW135.out); replace hx138_0 := (HB.out.cell (za w _ hx138_0)).trans hx138_0; replace hx138_1 := (HB.out.cell (za w _ hx138_1)).trans hx138_1; replace hx138_2 := (HB.out.cell (za w _ hx138_2)).trans hx138_2; replace hx138_0 := (cell_far (p := ⟨gb135, 0, none⟩) zK162 (.string ((rd_T100 l1 (rd l2 a3)).f0))).trans hx138_0; replace hx138_1 := (cell_far (p := ⟨gb135, 0, none⟩) zK162 (.string ((rd_T100 l1 (rd l2 a3)).f0))).trans hx138_1; replace hx138_2 := (cell_far (p := ⟨gb135, 0, none⟩) zK162 (.string ((rd_T100 l1 (rd l2 a3)).f0))).trans hx138_2; replace hx138_0 := (cell_far (p := ⟨gb135, 1, none⟩) zK163 (.int .i64 ((rd_T100 l1 (rd l2 a3)).f1))).trans hx138_0; replace hx138_1 := (cell_far (p := ⟨gb135, 1, none⟩) zK163 (.int .i64 ((rd_T100 l1 (rd l2 a3)).f1))).trans hx138_1; replace hx138_2 := (cell_far (p := ⟨gb135, 1, none⟩) zK163 (.int .i64 ((rd_T100 l1 (rd l2 a3)).f1))).trans hx138_2; replace hx138_0 := (cell_far (p := ⟨gb135, 2, none⟩) zK164 (.int .i64 ((rd_T100 l1 (rd l2 a3)).f2))).trans hx138_0; replace hx138_1 := (cell_far (p := ⟨gb135, 2, none⟩) zK164 (.int .i64 ((rd_T100 l1 (rd l2 a3)).f2))).trans hx138_1; replace hx138_2 := (cell_far (p := ⟨gb135, 2, none⟩) zK164 (.int .i64 ((rd_T100 l1 (rd l2 a3)).f2))).trans hx138_2; replace hx138_0 := (cell_far (p := ⟨gb135, 3, none⟩) zK165 (.int .i64 ((rd_T100 l1 (rd l2 a3)).f3))).trans hx138_0; replace hx138_1 := (cell_far (p := ⟨gb135, 3, none⟩) zK165 (.int .i64 ((rd_T100 l1 (rd l2 a3)).f3))).trans hx138_1; replace hx138_2 := (cell_far (p := ⟨gb135, 3, none⟩) zK165 (.int .i64 ((rd_T100 l1 (rd l2 a3)).f3))).trans hx138_2; replace hx138_0 := (cell_far (p := ⟨gb135, 4, none⟩) zK166 (.slice A134_4 ((rd_T100 l1 (rd l2 a3)).f4).length c134_4)).trans hx138_0; replace hx138_1 := (cell_far (p := ⟨gb135, 4, none⟩) zK166 (.slice A134_4 ((rd_T100 l1 (rd l2 a3)).f4).length c134_4)).trans hx138_1; replace hx138_2 := (cell_far (p := ⟨gb135, 4, none⟩) zK166 (.slice A134_4 ((rd_T100 l1 (rd l2 a3)).f4).length c134_4)).trans hx138_2; (try have hy138_0 := fun (n_ : Nat) => (show (((((((w12.drewN n_).setCell ⟨gb135, 0, none⟩ (.string ((rd_T100 l1 (rd l2 a3)).f0))).setCell ⟨gb135, 1, none⟩ (.int .i64 ((rd_T100 l1 (rd l2 a3)).f1))).setCell ⟨gb135, 2, none⟩ (.int .i64 ((rd_T100 l1 (rd l2 a3)).f2))).setCell ⟨gb135, 3, none⟩ (.int .i64 ((rd_T100 l1 (rd l2 a3)).f3))).setCell ⟨gb135, 4, none⟩ (.slice A134_4 ((rd_T100 l1 (rd l2 a3)).f4).length c134_4))).cell? _ = some _ from hx138_0)); (try have hy138_1 := fun (n_ : Nat) => (show (((((((w12.drewN n_).setCell ⟨gb135, 0, none⟩ (.string ((rd_T100 l1 (rd l2 a3)).f0))).setCell ⟨gb135, 1, none⟩ (.int .i64 ((rd_T100 l1 (rd l2 a3)).f1))).setCell ⟨gb135, 2, none⟩ (.int .i64 ((rd_T100 l1 (rd l2 a3)).f2))).setCell ⟨gb135, 3, none⟩ (.int .i64 ((rd_T100 l1 (rd l2 a3)).f3))).setCell ⟨gb135, 4, none⟩ (.slice A134_4 ((rd_T100 l1 (rd l2 a3)).f4).length c134_4))).cell? _ = some _ from hx138_1)); (try have hy138_2 := fun (n_ : Nat) => (show (((((((w12.drewN n_).setCell ⟨gb135, 0, none⟩ (.string ((rd_T100 l1 (rd l2 a3)).f0))).setCell ⟨gb135, 1, none⟩ (.int .i64 ((rd_T100 l1 (rd l2 a3)).f1))).setCell ⟨gb135, 2, none⟩ (.int .i64 ((rd_T100 l1 (rd l2 a3)).f2))).setCell ⟨gb135, 3, none⟩ (.int .i64 ((rd_T100 l1 (rd l2 a3)).f3))).setCell ⟨gb135, 4, none⟩ (.slice A134_4 ((rd_T100 l1 (rd l2 a3)).f4).length c134_4))).cell? _ = some _ from hx138_2)); clear hn138_0 hn138_1; clear hn138_2 hn138_3 hn138_4; replace p138 := eq_true p138; replace q138 := eq_true q138; have p139 : 0 ≤ (a3 : Int) := zO; have q139 : a3 < (l0.length : Int) := zO; obtain ⟨ad139, e139, hx139_0, hx139_1, hx139_2⟩ := at_T98 HR0.out a3 p139 q139; obtain rfl : ad136 = ad139 := (by injection e139); have hn139_0 : ad136.block ≠ gb135 := Nat.ne_of_lt (Nat.lt_of_lt_of_le zK200 GW135.out); have hn139_1 : ad136.block ≠ gb135 := Nat.ne_of_lt (Nat.lt_of_lt_of_le zK200 GW135.out); have hn139_2 : ad136.block ≠ gb135 := Nat.ne_of_lt (Nat.lt_of_lt_of_le zK200 GW135.out); have hn139_3 : ad136.block ≠ gb135 := Nat.ne_of_lt (Nat.lt_of_lt_of_le zK200 GW135.out); have hn139_4 : ad136.block ≠ gb135 := Nat.ne_of_lt (Nat.lt_of_lt_of_le zK200 GW135.out); replace hx139_0 := (HB.out.cell (za w _ hx139_0)).trans hx139_0; replace hx139_1 := (HB.out.cell (za w _ hx139_1)).trans hx139_1; replace hx139_2 := (HB.out.cell (za w _ hx139_2)).trans hx139_2; replace hx139_0 := (cell_far (p := ⟨gb135, 0, none⟩) zK167 (.string ((rd_T100 l1 (rd l2 a3)).f0))).trans hx139_0; replace hx139_1 := (cell_far (p := ⟨gb135, 0, none⟩) zK167 (.string ((rd_T100 l1 (rd l2 a3)).f0))).trans hx139_1; replace hx139_2 := (cell_far (p := ⟨gb135, 0, none⟩) zK167 (.string ((rd_T100 l1 (rd l2 a3)).f0))).trans hx139_2; replace hx139_0 := (cell_far (p := ⟨gb135, 1, none⟩) zK168 (.int .i64 ((rd_T100 l1 (rd l2 a3)).f1))).trans hx139_0; replace hx139_1 := (cell_far (p := ⟨gb135, 1, none⟩) zK168 (.int .i64 ((rd_T100 l1 (rd l2 a3)).f1))).trans hx139_1; replace hx139_2 := (cell_far (p := ⟨gb135, 1, none⟩) zK168 (.int .i64 ((rd_T100 l1 (rd l2 a3)).f1))).trans hx139_2; replace hx139_0 := (cell_far (p := ⟨gb135, 2, none⟩) zK169 (.int .i64 ((rd_T100 l1 (rd l2 a3)).f2))).trans hx139_0; replace hx139_1 := (cell_far (p := ⟨gb135, 2, none⟩) zK169 (.int .i64 ((rd_T100 l1 (rd l2 a3)).f2))).trans hx139_1; replace hx139_2 := (cell_far (p := ⟨gb135, 2, none⟩) zK169 (.int .i64 ((rd_T100 l1 (rd l2 a3)).f2))).trans hx139_2; replace hx139_0 := (cell_far (p := ⟨gb135, 3, none⟩) zK170 (.int .i64 ((rd_T100 l1 (rd l2 a3)).f3))).trans hx139_0; replace hx139_1 := (cell_far (p := ⟨gb135, 3, none⟩) zK170 (.int .i64 ((rd_T100 l1 (rd l2 a3)).f3))).trans hx139_1; replace hx139_2 := (cell_far (p := ⟨gb135, 3, none⟩) zK170 (.int .i64 ((rd_T100 l1 (rd l2 a3)).f3))).trans hx139_2; replace hx139_0 := (cell_far (p := ⟨gb135, 4, none⟩) zK171 (.slice A134_4 ((rd_T100 l1 (rd l2 a3)).f4).length c134_4)).trans hx139_0; replace hx139_1 := (cell_far (p := ⟨gb135, 4, none⟩) zK171 (.slice A134_4 ((rd_T100 l1 (rd l2 a3)).f4).length c134_4)).trans hx139_1; replace hx139_2 := (cell_far (p := ⟨gb135, 4, none⟩) zK171 (.slice A134_4 ((rd_T100 l1 (rd l2 a3)).f4).length c134_4)).trans hx139_2; (try have hy139_0 := fun (n_ : Nat) => (show (((((((w12.drewN n_).setCell ⟨gb135, 0, none⟩ (.string ((rd_T100 l1 (rd l2 a3)).f0))).setCell ⟨gb135, 1, none⟩ (.int .i64 ((rd_T100 l1 (rd l2 a3)).f1))).setCell ⟨gb135, 2, none⟩ (.int .i64 ((rd_T100 l1 (rd l2 a3)).f2))).setCell ⟨gb135, 3, none⟩ (.int .i64 ((rd_T100 l1 (rd l2 a3)).f3))).setCell ⟨gb135, 4, none⟩ (.slice A134_4 ((rd_T100 l1 (rd l2 a3)).f4).length c134_4))).cell? _ = some _ from hx139_0)); (try have hy139_1 := fun (n_ : Nat) => (show (((((((w12.drewN n_).setCell ⟨gb135, 0, none⟩ (.string ((rd_T100 l1 (rd l2 a3)).f0))).setCell ⟨gb135, 1, none⟩ (.int .i64 ((rd_T100 l1 (rd l2 a3)).f1))).setCell ⟨gb135, 2, none⟩ (.int .i64 ((rd_T100 l1 (rd l2 a3)).f2))).setCell ⟨gb135, 3, none⟩ (.int .i64 ((rd_T100 l1 (rd l2 a3)).f3))).setCell ⟨gb135, 4, none⟩ (.slice A134_4 ((rd_T100 l1 (rd l2 a3)).f4).length c134_4))).cell? _ = some _ from hx139_1)); (try have hy139_2 := fun (n_ : Nat) => (show (((((((w12.drewN n_).setCell ⟨gb135, 0, none⟩ (.string ((rd_T100 l1 (rd l2 a3)).f0))).setCell ⟨gb135, 1, none⟩ (.int .i64 ((rd_T100 l1 (rd l2 a3)).f1))).setCell ⟨gb135, 2, none⟩ (.int .i64 ((rd_T100 l1 (rd l2 a3)).f2))).setCell ⟨gb135, 3, none⟩ (.int .i64 ((rd_T100 l1 (rd l2 a3)).f3))).setCell ⟨gb135, 4, none⟩ (.slice A134_4 ((rd_T100 l1 (rd l2 a3)).f4).length c134_4))).cell? _ = some _ from hx139_2)); clear hn139_0 hn139_1; clear hn139_2 hn139_3 hn139_4; replace p139 := eq_true p139; replace q139 := eq_true q139)); try go_wp2_with (first | ((with_reducible refine gate_dst (N := 9) rfl ?_); refine box_event ?hg (N := 9) ?hd (cs := #[.string (⟨#[]⟩ : ByteArray), .int .i64 0, .int .i64 0, .int .i64 0, .slice none 0 0]) (t := 100) ?hr ?_; (case hd => rfl); (case hg => rfl); (case hr => exact zH100); intro gb135 hg w12 hbox hb; have n_ := zA_ (zb (zq zG76 hb)) (zA_ (zb (hbox)) (zA_ (zb ((by rw [hg]; exact (zo zG76) : w.heap.size ≤ gb135))) (zb ((by rw [hg]; exact (zo zG76) : w.heap.size ≤ gb135))))); clear HB; obtain ⟨HB, BK135, GW135, GE135⟩ := n_; clear hb hbox hg; have hcz13_0 : w12.cell? ⟨gb135, 0, none⟩ = some (.string (⟨#[]⟩ : ByteArray)) := (zg BK135.out 0).trans rfl; have hcz13_1 : w12.cell? ⟨gb135, 1, none⟩ = some (.int .i64 0) := (zg BK135.out 1).trans rfl; have hcz13_2 : w12.cell? ⟨gb135, 2, none⟩ = some (.int .i64 0) := (zg BK135.out 2).trans rfl; have hcz13_3 : w12.cell? ⟨gb135, 3, none⟩ = some (.int .i64 0) := (zg BK135.out 3).trans rfl; have hcz13_4 : w12.cell? ⟨gb135, 4, none⟩ = some (.slice none 0 0) := (zg BK135.out 4).trans rfl; have hfz13_0 := zf BK135.out 0; have hfz13_1 := zf BK135.out 1; have hfz13_2 := zf BK135.out 2; have hfz13_3 := zf BK135.out 3; have hfz13_4 := zf BK135.out 4; have p136 : 0 ≤ (a3 : Int) := zO; have q136 : a3 < (l0.length : Int) := zO; obtain ⟨ad136, e136, hx136_0, hx136_1, hx136_2⟩ := at_T98 HR0.out a3 p136 q136; cases e136; have hn136_0 : ad136.block ≠ gb135 := Nat.ne_of_lt (Nat.lt_of_lt_of_le zG86 GW135.out); have hn136_1 : ad136.block ≠ gb135 := Nat.ne_of_lt (Nat.lt_of_lt_of_le zG86 GW135.out); have hn136_2 : ad136.block ≠ gb135 := Nat.ne_of_lt (Nat.lt_of_lt_of_le zG86 GW135.out); have hn136_3 : ad136.block ≠ gb135 := Nat.ne_of_lt (Nat.lt_of_lt_of_le zG86 GW135.out); have hn136_4 : ad136.block ≠ gb135 := Nat.ne_of_lt (Nat.lt_of_lt_of_le zG86 GW135.out); replace hx136_0 := (HB.out.cell (za w _ hx136_0)).trans hx136_0; replace hx136_1 := (HB.out.cell (za w _ hx136_1)).trans hx136_1; replace hx136_2 := (HB.out.cell (za w _ hx136_2)).trans hx136_2; replace hx136_0 := (cell_far (p := ⟨gb135, 0, none⟩) zG71 (.string ((rd_T100 l1 (rd l2 a3)).f0))).trans hx136_0; replace hx136_1 := (cell_far (p := ⟨gb135, 0, none⟩) zG71 (.string ((rd_T100 l1 (rd l2 a3)).f0))).trans hx136_1; replace hx136_2 := (cell_far (p := ⟨gb135, 0, none⟩) zG71 (.string ((rd_T100 l1 (rd l2 a3)).f0))).trans hx136_2; replace hx136_0 := (cell_far (p := ⟨gb135, 1, none⟩) zG72 (.int .i64 ((rd_T100 l1 (rd l2 a3)).f1))).trans hx136_0; replace hx136_1 := (cell_far (p := ⟨gb135, 1, none⟩) zG72 (.int .i64 ((rd_T100 l1 (rd l2 a3)).f1))).trans hx136_1; replace hx136_2 := (cell_far (p := ⟨gb135, 1, none⟩) zG72 (.int .i64 ((rd_T100 l1 (rd l2 a3)).f1))).trans hx136_2; replace hx136_0 := (cell_far (p := ⟨gb135, 2, none⟩) zG73 (.int .i64 ((rd_T100 l1 (rd l2 a3)).f2))).trans hx136_0; replace hx136_1 := (cell_far (p := ⟨gb135, 2, none⟩) zG73 (.int .i64 ((rd_T100 l1 (rd l2 a3)).f2))).trans hx136_1; replace hx136_2 := (cell_far (p := ⟨gb135, 2, none⟩) zG73 (.int .i64 ((rd_T100 l1 (rd l2 a3)).f2))).trans hx136_2; replace hx136_0 := (cell_far (p := ⟨gb135, 3, none⟩) zG74 (.int .i64 ((rd_T100 l1 (rd l2 a3)).f3))).trans hx136_0; replace hx136_1 := (cell_far (p := ⟨gb135, 3, none⟩) zG74 (.int .i64 ((rd_T100 l1 (rd l2 a3)).f3))).trans hx136_1; replace hx136_2 := (cell_far (p := ⟨gb135, 3, none⟩) zG74 (.int .i64 ((rd_T100 l1 (rd l2 a3)).f3))).trans hx136_2; replace hx136_0 := (cell_far (p := ⟨gb135, 4, none⟩) zG75 (.slice A134_4 ((rd_T100 l1 (rd l2 a3)).f4).length c134_4)).trans hx136_0; replace hx136_1 := (cell_far (p := ⟨gb135, 4, none⟩) zG75 (.slice A134_4 ((rd_T100 l1 (rd l2 a3)).f4).length c134_4)).trans hx136_1; replace hx136_2 := (cell_far (p := ⟨gb135, 4, none⟩) zG75 (.slice A134_4 ((rd_T100 l1 (rd l2 a3)).f4).length c134_4)).trans hx136_2; (try have hy136_0 := fun (n_ : Nat) => (show (((((((w12.drewN n_).setCell ⟨gb135, 0, none⟩ (.string ((rd_T100 l1 (rd l2 a3)).f0))).setCell ⟨gb135, 1, none⟩ (.int .i64 ((rd_T100 l1 (rd l2 a3)).f1))).setCell ⟨gb135, 2, none⟩ (.int .i64 ((rd_T100 l1 (rd l2 a3)).f2))).setCell ⟨gb135, 3, none⟩ (.int .i64 ((rd_T100 l1 (rd l2 a3)).f3))).setCell ⟨gb135, 4, none⟩ (.slice A134_4 ((rd_T100 l1 (rd l2 a3)).f4).length c134_4))).cell? _ = some _ from hx136_0)); (try have hy136_1 := fun (n_ : Nat) => (show (((((((w12.drewN n_).setCell ⟨gb135, 0, none⟩ (.string ((rd_T100 l1 (rd l2 a3)).f0))).setCell ⟨gb135, 1, none⟩ (.int .i64 ((rd_T100 l1 (rd l2 a3)).f1))).setCell ⟨gb135, 2, none⟩ (.int .i64 ((rd_T100 l1 (rd l2 a3)).f2))).setCell ⟨gb135, 3, none⟩ (.int .i64 ((rd_T100 l1 (rd l2 a3)).f3))).setCell ⟨gb135, 4, none⟩ (.slice A134_4 ((rd_T100 l1 (rd l2 a3)).f4).length c134_4))).cell? _ = some _ from hx136_1)); (try have hy136_2 := fun (n_ : Nat) => (show (((((((w12.drewN n_).setCell ⟨gb135, 0, none⟩ (.string ((rd_T100 l1 (rd l2 a3)).f0))).setCell ⟨gb135, 1, none⟩ (.int .i64 ((rd_T100 l1 (rd l2 a3)).f1))).setCell ⟨gb135, 2, none⟩ (.int .i64 ((rd_T100 l1 (rd l2 a3)).f2))).setCell ⟨gb135, 3, none⟩ (.int .i64 ((rd_T100 l1 (rd l2 a3)).f3))).setCell ⟨gb135, 4, none⟩ (.slice A134_4 ((rd_T100 l1 (rd l2 a3)).f4).length c134_4))).cell? _ = some _ from hx136_2)); clear hn136_0 hn136_1; clear hn136_2 hn136_3 hn136_4; replace p136 := eq_true p136; replace q136 := eq_true q136) | (go_at_call 78; (with_reducible refine (spec_l00Has.calls k _ _ ((rd_T100 l1 (rd l2 a3)).f4) ((rd_T98 l0 a3).f2) true _ ?side1 ?side2 A10.out).mono ?_); (case side1 => exact zH32); (case side2 => exact HC134_4.out); rintro e w' ⟨rfl, ⟨nd, rfl⟩⟩; (try first | exact ⟨rfl, _, World.drewN_drewN _ _ _⟩ | exact ⟨rfl, _, Eq.trans (World.drewN_drewN _ _ _) (congrArg (World.drewN _) (Nat.add_assoc _ _ _))⟩); have p138 : 0 ≤ (a3 : Int) := zO; have q138 : a3 < (l0.length : Int) := zO; obtain ⟨ad138, e138, hx138_0, hx138_1, hx138_2⟩ := at_T98 HR0.out a3 p138 q138; obtain rfl : ad136 = ad138 := (by injection e138); have hn138_0 : ad136.block ≠ gb135 := Nat.ne_of_lt (Nat.lt_of_lt_of_le zK199 GW135.out); have hn138_1 : ad136.block ≠ gb135 := Nat.ne_of_lt (Nat.lt_of_lt_of_le zK199 GW135.out); have hn138_2 : ad136.block ≠ gb135 := Nat.ne_of_lt (Nat.lt_of_lt_of_le zK199 GW135.out); have hn138_3 : ad136.block ≠ gb135 := Nat.ne_of_lt (Nat.lt_of_lt_of_le zK199 GW135.out); have hn138_4 : ad136.block ≠ gb135 := Nat.ne_of_lt (Nat.lt_of_lt_of_le zK199 GW135.out); replace hx138_0 := (HB.out.cell (za w _ hx138_0)).trans hx138_0; replace hx138_1 := (HB.out.cell (za w _ hx138_1)).trans hx138_1; replace hx138_2 := (HB.out.cell (za w _ hx138_2)).trans hx138_2; replace hx138_0 := (cell_far (p := ⟨gb135, 0, none⟩) zK162 (.string ((rd_T100 l1 (rd l2 a3)).f0))).trans hx138_0; replace hx138_1 := (cell_far (p := ⟨gb135, 0, none⟩) zK162 (.string ((rd_T100 l1 (rd l2 a3)).f0))).trans hx138_1; replace hx138_2 := (cell_far (p := ⟨gb135, 0, none⟩) zK162 (.string ((rd_T100 l1 (rd l2 a3)).f0))).trans hx138_2; replace hx138_0 := (cell_far (p := ⟨gb135, 1, none⟩) zK163 (.int .i64 ((rd_T100 l1 (rd l2 a3)).f1))).trans hx138_0; replace hx138_1 := (cell_far (p := ⟨gb135, 1, none⟩) zK163 (.int .i64 ((rd_T100 l1 (rd l2 a3)).f1))).trans hx138_1; replace hx138_2 := (cell_far (p := ⟨gb135, 1, none⟩) zK163 (.int .i64 ((rd_T100 l1 (rd l2 a3)).f1))).trans hx138_2; replace hx138_0 := (cell_far (p := ⟨gb135, 2, none⟩) zK164 (.int .i64 ((rd_T100 l1 (rd l2 a3)).f2))).trans hx138_0; replace hx138_1 := (cell_far (p := ⟨gb135, 2, none⟩) zK164 (.int .i64 ((rd_T100 l1 (rd l2 a3)).f2))).trans hx138_1; replace hx138_2 := (cell_far (p := ⟨gb135, 2, none⟩) zK164 (.int .i64 ((rd_T100 l1 (rd l2 a3)).f2))).trans hx138_2; replace hx138_0 := (cell_far (p := ⟨gb135, 3, none⟩) zK165 (.int .i64 ((rd_T100 l1 (rd l2 a3)).f3))).trans hx138_0; replace hx138_1 := (cell_far (p := ⟨gb135, 3, none⟩) zK165 (.int .i64 ((rd_T100 l1 (rd l2 a3)).f3))).trans hx138_1; replace hx138_2 := (cell_far (p := ⟨gb135, 3, none⟩) zK165 (.int .i64 ((rd_T100 l1 (rd l2 a3)).f3))).trans hx138_2; replace hx138_0 := (cell_far (p := ⟨gb135, 4, none⟩) zK166 (.slice A134_4 ((rd_T100 l1 (rd l2 a3)).f4).length c134_4)).trans hx138_0; replace hx138_1 := (cell_far (p := ⟨gb135, 4, none⟩) zK166 (.slice A134_4 ((rd_T100 l1 (rd l2 a3)).f4).length c134_4)).trans hx138_1; replace hx138_2 := (cell_far (p := ⟨gb135, 4, none⟩) zK166 (.slice A134_4 ((rd_T100 l1 (rd l2 a3)).f4).length c134_4)).trans hx138_2; (try have hy138_0 := fun (n_ : Nat) => (show (((((((w12.drewN n_).setCell ⟨gb135, 0, none⟩ (.string ((rd_T100 l1 (rd l2 a3)).f0))).setCell ⟨gb135, 1, none⟩ (.int .i64 ((rd_T100 l1 (rd l2 a3)).f1))).setCell ⟨gb135, 2, none⟩ (.int .i64 ((rd_T100 l1 (rd l2 a3)).f2))).setCell ⟨gb135, 3, none⟩ (.int .i64 ((rd_T100 l1 (rd l2 a3)).f3))).setCell ⟨gb135, 4, none⟩ (.slice A134_4 ((rd_T100 l1 (rd l2 a3)).f4).length c134_4))).cell? _ = some _ from hx138_0)); (try have hy138_1 := fun (n_ : Nat) => (show (((((((w12.drewN n_).setCell ⟨gb135, 0, none⟩ (.string ((rd_T100 l1 (rd l2 a3)).f0))).setCell ⟨gb135, 1, none⟩ (.int .i64 ((rd_T100 l1 (rd l2 a3)).f1))).setCell ⟨gb135, 2, none⟩ (.int .i64 ((rd_T100 l1 (rd l2 a3)).f2))).setCell ⟨gb135, 3, none⟩ (.int .i64 ((rd_T100 l1 (rd l2 a3)).f3))).setCell ⟨gb135, 4, none⟩ (.slice A134_4 ((rd_T100 l1 (rd l2 a3)).f4).length c134_4))).cell? _ = some _ from hx138_1)); (try have hy138_2 := fun (n_ : Nat) => (show (((((((w12.drewN n_).setCell ⟨gb135, 0, none⟩ (.string ((rd_T100 l1 (rd l2 a3)).f0))).setCell ⟨gb135, 1, none⟩ (.int .i64 ((rd_T100 l1 (rd l2 a3)).f1))).setCell ⟨gb135, 2, none⟩ (.int .i64 ((rd_T100 l1 (rd l2 a3)).f2))).setCell ⟨gb135, 3, none⟩ (.int .i64 ((rd_T100 l1 (rd l2 a3)).f3))).setCell ⟨gb135, 4, none⟩ (.slice A134_4 ((rd_T100 l1 (rd l2 a3)).f4).length c134_4))).cell? _ = some _ from hx138_2)); clear hn138_0 hn138_1; clear hn138_2 hn138_3 hn138_4; replace p138 := eq_true p138; replace q138 := eq_true q138; have p139 : 0 ≤ (a3 : Int) := zO; have q139 : a3 < (l0.length : Int) := zO; obtain ⟨ad139, e139, hx139_0, hx139_1, hx139_2⟩ := at_T98 HR0.out a3 p139 q139; obtain rfl : ad136 = ad139 := (by injection e139); have hn139_0 : ad136.block ≠ gb135 := Nat.ne_of_lt (Nat.lt_of_lt_of_le zK200 GW135.out); have hn139_1 : ad136.block ≠ gb135 := Nat.ne_of_lt (Nat.lt_of_lt_of_le zK200 GW135.out); have hn139_2 : ad136.block ≠ gb135 := Nat.ne_of_lt (Nat.lt_of_lt_of_le zK200 GW135.out); have hn139_3 : ad136.block ≠ gb135 := Nat.ne_of_lt (Nat.lt_of_lt_of_le zK200 GW135.out); have hn139_4 : ad136.block ≠ gb135 := Nat.ne_of_lt (Nat.lt_of_lt_of_le zK200 GW135.out); replace hx139_0 := (HB.out.cell (za w _ hx139_0)).trans hx139_0; replace hx139_1 := (HB.out.cell (za w _ hx139_1)).trans hx139_1; replace hx139_2 := (HB.out.cell (za w _ hx139_2)).trans hx139_2; replace hx139_0 := (cell_far (p := ⟨gb135, 0, none⟩) zK167 (.string ((rd_T100 l1 (rd l2 a3)).f0))).trans hx139_0; replace hx139_1 := (cell_far (p := ⟨gb135, 0, none⟩) zK167 (.string ((rd_T100 l1 (rd l2 a3)).f0))).trans hx139_1; replace hx139_2 := (cell_far (p := ⟨gb135, 0, none⟩) zK167 (.string ((rd_T100 l1 (rd l2 a3)).f0))).trans hx139_2; replace hx139_0 := (cell_far (p := ⟨gb135, 1, none⟩) zK168 (.int .i64 ((rd_T100 l1 (rd l2 a3)).f1))).trans hx139_0; replace hx139_1 := (cell_far (p := ⟨gb135, 1, none⟩) zK168 (.int .i64 ((rd_T100 l1 (rd l2 a3)).f1))).trans hx139_1; replace hx139_2 := (cell_far (p := ⟨gb135, 1, none⟩) zK168 (.int .i64 ((rd_T100 l1 (rd l2 a3)).f1))).trans hx139_2; replace hx139_0 := (cell_far (p := ⟨gb135, 2, none⟩) zK169 (.int .i64 ((rd_T100 l1 (rd l2 a3)).f2))).trans hx139_0; replace hx139_1 := (cell_far (p := ⟨gb135, 2, none⟩) zK169 (.int .i64 ((rd_T100 l1 (rd l2 a3)).f2))).trans hx139_1; replace hx139_2 := (cell_far (p := ⟨gb135, 2, none⟩) zK169 (.int .i64 ((rd_T100 l1 (rd l2 a3)).f2))).trans hx139_2; replace hx139_0 := (cell_far (p := ⟨gb135, 3, none⟩) zK170 (.int .i64 ((rd_T100 l1 (rd l2 a3)).f3))).trans hx139_0; replace hx139_1 := (cell_far (p := ⟨gb135, 3, none⟩) zK170 (.int .i64 ((rd_T100 l1 (rd l2 a3)).f3))).trans hx139_1; replace hx139_2 := (cell_far (p := ⟨gb135, 3, none⟩) zK170 (.int .i64 ((rd_T100 l1 (rd l2 a3)).f3))).trans hx139_2; replace hx139_0 := (cell_far (p := ⟨gb135, 4, none⟩) zK171 (.slice A134_4 ((rd_T100 l1 (rd l2 a3)).f4).length c134_4)).trans hx139_0; replace hx139_1 := (cell_far (p := ⟨gb135, 4, none⟩) zK171 (.slice A134_4 ((rd_T100 l1 (rd l2 a3)).f4).length c134_4)).trans hx139_1; replace hx139_2 := (cell_far (p := ⟨gb135, 4, none⟩) zK171 (.slice A134_4 ((rd_T100 l1 (rd l2 a3)).f4).length c134_4)).trans hx139_2; (try have hy139_0 := fun (n_ : Nat) => (show (((((((w12.drewN n_).setCell ⟨gb135, 0, none⟩ (.string ((rd_T100 l1 (rd l2 a3)).f0))).setCell ⟨gb135, 1, none⟩ (.int .i64 ((rd_T100 l1 (rd l2 a3)).f1))).setCell ⟨gb135, 2, none⟩ (.int .i64 ((rd_T100 l1 (rd l2 a3)).f2))).setCell ⟨gb135, 3, none⟩ (.int .i64 ((rd_T100 l1 (rd l2 a3)).f3))).setCell ⟨gb135, 4, none⟩ (.slice A134_4 ((rd_T100 l1 (rd l2 a3)).f4).length c134_4))).cell? _ = some _ from hx139_0)); (try have hy139_1 := fun (n_ : Nat) => (show (((((((w12.drewN n_).setCell ⟨gb135, 0, none⟩ (.string ((rd_T100 l1 (rd l2 a3)).f0))).setCell ⟨gb135, 1, none⟩ (.int .i64 ((rd_T100 l1 (rd l2 a3)).f1))).setCell ⟨gb135, 2, none⟩ (.int .i64 ((rd_T100 l1 (rd l2 a3)).f2))).setCell ⟨gb135, 3, none⟩ (.int .i64 ((rd_T100 l1 (rd l2 a3)).f3))).setCell ⟨gb135, 4, none⟩ (.slice A134_4 ((rd_T100 l1 (rd l2 a3)).f4).length c134_4))).cell? _ = some _ from hx139_1)); (try have hy139_2 := fun (n_ : Nat) => (show (((((((w12.drewN n_).setCell ⟨gb135, 0, none⟩ (.string ((rd_T100 l1 (rd l2 a3)).f0))).setCell ⟨gb135, 1, none⟩ (.int .i64 ((rd_T100 l1 (rd l2 a3)).f1))).setCell ⟨gb135, 2, none⟩ (.int .i64 ((rd_T100 l1 (rd l2 a3)).f2))).setCell ⟨gb135, 3, none⟩ (.int .i64 ((rd_T100 l1 (rd l2 a3)).f3))).setCell ⟨gb135, 4, none⟩ (.slice A134_4 ((rd_T100 l1 (rd l2 a3)).f4).length c134_4))).cell? _ = some _ from hx139_2)); clear hn139_0 hn139_1; clear hn139_2 hn139_3 hn139_4; replace p139 := eq_true p139; replace q139 := eq_true q139)))
 go_loopg [10, 11, 12] k (fun kq v10 v11 v12 w' => ∃ (x10_1 : Int) (x11_1 : Bool) (x12_1 : Int), v10 = .int .i64 x10_1 ∧ v11 = .bool x11_1 ∧ v12 = .int .i64 x12_1 ∧ Aside0 (spec_l21Code.l0 kq l0 l2 a3 x10_1 x11_1 x12_1 ((rd_T100 l1 (rd l2 a3)).f0) ((rd_T100 l1 (rd l2 a3)).f1) ((rd_T100 l1 (rd l2 a3)).f2) ((rd_T100 l1 (rd l2 a3)).f3) ((rd_T100 l1 (rd l2 a3)).f4) = some r) ∧ Aside0 (kq ≤ k) ∧ Aside0 (w'.heap[gb135]? = some (.cells #[.string ((rd_T100 l1 (rd l2 a3)).f0), .int .i64 ((rd_T100 l1 (rd l2 a3)).f1), .int .i64 ((rd_T100 l1 (rd l2 a3)).f2), .int .i64 ((rd_T100 l1 (rd l2 a3)).f3), (.slice A134_4 ((rd_T100 l1 (rd l2 a3)).f4).length c134_4)] 100 (0, 0))) ∧ Aside0 (Below w.heap.size w w'))
 case atStart => exact ⟨(wrap64 (((rd_T98 l0 a3).f1) - ((rd_T98 l0 a3).f0))), (false), (0), zG95, zG95, zG95, H', ⟨Nat.le_refl _⟩, ⟨by (with_reducible repeat (first | refine zi ?_ _ | refine zk ?_ | refine zj ?_ _)); refine zy (cs := #[.string ((rd_T100 l1 (rd l2 a3)).f0), .int .i64 ((rd_T100 l1 (rd l2 a3)).f1), .int .i64 ((rd_T100 l1 (rd l2 a3)).f2), .int .i64 ((rd_T100 l1 (rd l2 a3)).f3), .slice none 0 0]) ?_ 4 _ rfl; (with_reducible repeat (first | refine zi ?_ _ | refine zk ?_ | refine zj ?_ _)); refine zy (cs := #[.string ((rd_T100 l1 (rd l2 a3)).f0), .int .i64 ((rd_T100 l1 (rd l2 a3)).f1), .int .i64 ((rd_T100 l1 (rd l2 a3)).f2), .int .i64 0, .slice none 0 0]) ?_ 3 _ rfl; (with_reducible repeat (first | refine zi ?_ _ | refine zk ?_ | refine zj ?_ _)); refine zy (cs := #[.string ((rd_T100 l1 (rd l2 a3)).f0), .int .i64 ((rd_T100 l1 (rd l2 a3)).f1), .int .i64 0, .int .i64 0, .slice none 0 0]) ?_ 2 _ rfl; (with_reducible repeat (first | refine zi ?_ _ | refine zk ?_ | refine zj ?_ _)); refine zy (cs := #[.string ((rd_T100 l1 (rd l2 a3)).f0), .int .i64 0, .int .i64 0, .int .i64 0, .slice none 0 0]) ?_ 1 _ rfl; (with_reducible repeat (first | refine zi ?_ _ | refine zk ?_ | refine zj ?_ _)); refine zy (cs := #[.string (⟨#[]⟩ : ByteArray), .int .i64 0, .int .i64 0, .int .i64 0, .slice none 0 0]) ?_ 0 _ rfl; (with_reducible repeat (first | refine zi ?_ _ | refine zk ?_ | refine zj ?_ _)); exact BK135.out⟩, ⟨zH57⟩⟩
 case round =>
  clear H'
  try clear c1
  try clear p1
  try clear q1
  try clear hx1
  try clear c2
  try clear p2
  try clear c5
  try clear c5b0
  try clear c6
  try clear c6b0
  try clear p6
  try clear c7
  try clear c7b0
  try clear c8
  try clear c8b0
  try clear c9
  try clear c9b0
  try clear c11
  try clear c13
  try clear p13
  try clear q13
  try clear hx13
  try clear hcz13_0
  try clear hcz13_1
  try clear hcz13_2
  try clear hcz13_3
  try clear hcz13_4
  try clear hfz13_0
  try clear hfz13_1
  try clear hfz13_2
  try clear hfz13_3
  try clear hfz13_4
  try clear hx133_0
  try clear hx134_0
  try clear hx134_1
  try clear hx134_2
  try clear hx134_3
  try clear hx134_4
  try clear hx136_0
  try clear hx136_1
  try clear hx136_2
  try clear hx138_0
  try clear hx138_1
  try clear hx138_2
  try clear hx139_0
  try clear hx139_1
  try clear hx139_2
  try clear p133
  try clear p134
  try clear p136
  try clear p138
  try clear p139
  try clear q133
  try clear q134
  try clear q136
  try clear q138
  try clear q139
  obtain ⟨x10_1, x11_1, x12_1, rfl, rfl, rfl, HA, HK1, BK135, HB⟩ := hrel
  cases gk with
  | zero => exact absurd HA.out (by simp [spec_l21Code.l0])
  | succ k1 =>
   have H := HA.out
   clear HA
   simp only [spec_l21Code.l0] at H
   by_cases c14 : x12_1 < a3
   rotate_left
   ·rw [if_neg c14] at H
    have c14b0 := decide_eq_false c14
    clear c14
    by_cases c24 : x11_1 = true
    ·subst c24
     have H1 : (some 12) = some r := by rw [if_pos rfl] at H; exact H
     clear H
     have H := H1
     clear H1
     obtain rfl := Option.some.inj H
     go_wp2
     repeat (go_quiet (fail); try go_wp2)
     go_ret
     exact zH21
    replace c24 := Bool.eq_false_iff.mpr c24
    subst c24
    have H1 : (if x10_1 > ((rd_T100 l1 (rd l2 a3)).f1) then (some 11) else (some 0)) = some r := by rw [if_neg (show ¬ (false = true) by decide)] at H; exact H
    clear H
    have H := H1
    clear H1
    by_cases c25 : x10_1 > ((rd_T100 l1 (rd l2 a3)).f1)
    rotate_left
    ·rw [if_neg c25] at H
     have c25b0 : decide (((rd_T100 l1 (rd l2 a3)).f1) < x10_1) = false := decide_eq_false c25
     clear c25
     obtain rfl := Option.some.inj H
     have hcz27_0 : wr.cell? ⟨gb135, 0, none⟩ = some (.string ((rd_T100 l1 (rd l2 a3)).f0)) := (zg BK135.out 0).trans rfl
     have hcz27_1 : wr.cell? ⟨gb135, 1, none⟩ = some (.int .i64 ((rd_T100 l1 (rd l2 a3)).f1)) := (zg BK135.out 1).trans rfl
     have hcz27_2 : wr.cell? ⟨gb135, 2, none⟩ = some (.int .i64 ((rd_T100 l1 (rd l2 a3)).f2)) := (zg BK135.out 2).trans rfl
     have hcz27_3 : wr.cell? ⟨gb135, 3, none⟩ = some (.int .i64 ((rd_T100 l1 (rd l2 a3)).f3)) := (zg BK135.out 3).trans rfl
     have hcz27_4 : wr.cell? ⟨gb135, 4, none⟩ = some (.slice A134_4 ((rd_T100 l1 (rd l2 a3)).f4).length c134_4) := (zg BK135.out 4).trans rfl
     have hfz27_0 := zf BK135.out 0
     have hfz27_1 := zf BK135.out 1
     have hfz27_2 := zf BK135.out 2
     have hfz27_3 := zf BK135.out 3
     have hfz27_4 := zf BK135.out 4
     go_wp2
     repeat (go_quiet (fail); try go_wp2)
     go_ret
     exact zH21
    rw [if_pos c25] at H
    have c25b0 : decide (((rd_T100 l1 (rd l2 a3)).f1) < x10_1) = true := decide_eq_true c25
    clear c25
    obtain rfl := Option.some.inj H
    have hcz26_0 : wr.cell? ⟨gb135, 0, none⟩ = some (.string ((rd_T100 l1 (rd l2 a3)).f0)) := (zg BK135.out 0).trans rfl
    have hcz26_1 : wr.cell? ⟨gb135, 1, none⟩ = some (.int .i64 ((rd_T100 l1 (rd l2 a3)).f1)) := (zg BK135.out 1).trans rfl
    have hcz26_2 : wr.cell? ⟨gb135, 2, none⟩ = some (.int .i64 ((rd_T100 l1 (rd l2 a3)).f2)) := (zg BK135.out 2).trans rfl
    have hcz26_3 : wr.cell? ⟨gb135, 3, none⟩ = some (.int .i64 ((rd_T100 l1 (rd l2 a3)).f3)) := (zg BK135.out 3).trans rfl
    have hcz26_4 : wr.cell? ⟨gb135, 4, none⟩ = some (.slice A134_4 ((rd_T100 l1 (rd l2 a3)).f4).length c134_4) := (zg BK135.out 4).trans rfl
    have hfz26_0 := zf BK135.out 0
    have hfz26_1 := zf BK135.out 1
    have hfz26_2 := zf BK135.out 2
    have hfz26_3 := zf BK135.out 3
    have hfz26_4 := zf BK135.out 4
    go_wp2
    repeat (go_quiet (fail); try go_wp2)
    go_ret
    exact zH21
   rw [if_pos c14] at H
   have c14b0 := decide_eq_true c14
   clear c14
   by_cases c15 : 0 ≤ x12_1
   rotate_left
   ·rw [if_neg c15] at H
    exact absurd H (by simp)
   rw [if_pos c15] at H
   have c15b0 := decide_eq_true c15
   clear c15
   by_cases c16 : x12_1 < (l2.length : Int)
   rotate_left
   ·rw [if_neg c16] at H
    exact absurd H (by simp)
   rw [if_pos c16] at H
   have c16b0 := decide_eq_true c16
   clear c16
   by_cases c17 : 0 ≤ a3
   rotate_left
   ·rw [if_neg c17] at H
    exact absurd H (by simp)
   rw [if_pos c17] at H
   have c17b0 := decide_eq_true c17
   clear c17
   by_cases c18 : a3 < (l2.length : Int)
   rotate_left
   ·rw [if_neg c18] at H
    exact absurd H (by simp)
   rw [if_pos c18] at H
   have c18b0 := decide_eq_true c18
   clear c18
   by_cases c19 : (rd l2 x12_1) = (rd l2 a3)
   rotate_left
   ·rw [if_neg c19] at H
    have c19b0 : ((rd l2 x12_1) == (rd l2 a3)) = false := beq_eq_false_iff_ne.mpr c19
    have c19b1 : ((rd l2 x12_1) != (rd l2 a3)) = true := bne_iff_ne.mpr c19
    have H' := zb H
    clear H
    have p140 : 0 ≤ (x12_1 : Int) := zO
    have q140 : x12_1 < (l2.length : Int) := zO
    obtain ⟨ad140, e140, hx140_0⟩ := zaj HR2.out x12_1 p140 q140
    obtain rfl : ad133 = ad140 := (by injection e140)
    replace hx140_0 := (HB.out.cell (za w _ hx140_0)).trans hx140_0
    replace p140 := eq_true p140
    replace q140 := eq_true q140
    have p141 : 0 ≤ (a3 : Int) := zO
    have q141 : a3 < (l2.length : Int) := zO
    obtain ⟨ad141, e141, hx141_0⟩ := zaj HR2.out a3 p141 q141
    obtain rfl : ad133 = ad141 := (by injection e141)
    replace hx141_0 := (HB.out.cell (za w _ hx141_0)).trans hx141_0
    replace p141 := eq_true p141
    replace q141 := eq_true q141
    go_wp2
    repeat (go_quiet (fail); try go_wp2)
    go_roundg k1
    case measure => have := HK1.out; omega
    case rel => exact ⟨(x10_1), (x11_1), (wrap64 (x12_1 + 1)), zG95, zG95, zG95, H', ⟨zH104⟩, ⟨zH80⟩, ⟨zH57⟩⟩
   rw [if_pos c19] at H
   have c19b0 : ((rd l2 x12_1) == (rd l2 a3)) = true := beq_iff_eq.mpr c19
   have c19b1 : ((rd l2 x12_1) != (rd l2 a3)) = false := bne_eq_false_iff_eq.mpr c19
   clear c19
   by_cases c20 : x12_1 < (l0.length : Int)
   rotate_left
   ·rw [if_neg c20] at H
    exact absurd H (by simp)
   rw [if_pos c20] at H
   have c20b0 := decide_eq_true c20
   clear c20
   by_cases c21 : x11_1 = true
   ·subst c21
    have H1 : (spec_l21Code.l0 k1 l0 l2 a3 (wrap64 (x10_1 + (wrap64 (((rd_T98 l0 x12_1).f1) - ((rd_T98 l0 x12_1).f0))))) true (wrap64 (x12_1 + 1)) ((rd_T100 l1 (rd l2 a3)).f0) ((rd_T100 l1 (rd l2 a3)).f1) ((rd_T100 l1 (rd l2 a3)).f2) ((rd_T100 l1 (rd l2 a3)).f3) ((rd_T100 l1 (rd l2 a3)).f4)) = some r := by rw [if_pos rfl] at H; exact H
    clear H
    have H := H1
    clear H1
    have H' := zb H
    clear H
    have p140 : 0 ≤ (x12_1 : Int) := zO
    have q140 : x12_1 < (l2.length : Int) := zO
    obtain ⟨ad140, e140, hx140_0⟩ := zaj HR2.out x12_1 p140 q140
    obtain rfl : ad133 = ad140 := (by injection e140)
    replace hx140_0 := (HB.out.cell (za w _ hx140_0)).trans hx140_0
    replace p140 := eq_true p140
    replace q140 := eq_true q140
    have p141 : 0 ≤ (a3 : Int) := zO
    have q141 : a3 < (l2.length : Int) := zO
    obtain ⟨ad141, e141, hx141_0⟩ := zaj HR2.out a3 p141 q141
    obtain rfl : ad133 = ad141 := (by injection e141)
    replace hx141_0 := (HB.out.cell (za w _ hx141_0)).trans hx141_0
    replace p141 := eq_true p141
    replace q141 := eq_true q141
    have p142 : 0 ≤ (x12_1 : Int) := zO
    have q142 : x12_1 < (l0.length : Int) := zO
    obtain ⟨ad142, e142, hx142_0, hx142_1, hx142_2⟩ := at_T98 HR0.out x12_1 p142 q142
    obtain rfl : ad136 = ad142 := (by injection e142)
    replace hx142_0 := (HB.out.cell (za w _ hx142_0)).trans hx142_0
    replace hx142_1 := (HB.out.cell (za w _ hx142_1)).trans hx142_1
    replace hx142_2 := (HB.out.cell (za w _ hx142_2)).trans hx142_2
    replace p142 := eq_true p142
    replace q142 := eq_true q142
    have p143 : 0 ≤ (x12_1 : Int) := zO
    have q143 : x12_1 < (l0.length : Int) := zO
    obtain ⟨ad143, e143, hx143_0, hx143_1, hx143_2⟩ := at_T98 HR0.out x12_1 p143 q143
    obtain rfl : ad136 = ad143 := (by injection e143)
    replace hx143_0 := (HB.out.cell (za w _ hx143_0)).trans hx143_0
    replace hx143_1 := (HB.out.cell (za w _ hx143_1)).trans hx143_1
    replace hx143_2 := (HB.out.cell (za w _ hx143_2)).trans hx143_2
    replace p143 := eq_true p143
    replace q143 := eq_true q143
    go_wp2
    repeat (go_quiet (fail); try go_wp2)
    go_roundg k1
    case measure => have := HK1.out; omega
    case rel => exact ⟨(wrap64 (x10_1 + (wrap64 (((rd_T98 l0 x12_1).f1) - ((rd_T98 l0 x12_1).f0))))), (true), (wrap64 (x12_1 + 1)), zG95, zG95, zG95, H', ⟨zH104⟩, ⟨zH80⟩, ⟨zH57⟩⟩
   replace c21 := Bool.eq_false_iff.mpr c21
   subst c21
   have H1 : (if a3 < (l0.length : Int) then (spec_l21Code.l0 k1 l0 l2 a3 (wrap64 (x10_1 + (wrap64 (((rd_T98 l0 x12_1).f1) - ((rd_T98 l0 x12_1).f0))))) (decide (((rd_T98 l0 a3).f0) < (wrap64 (((rd_T98 l0 x12_1).f1) + ((rd_T100 l1 (rd l2 a3)).f2))))) (wrap64 (x12_1 + 1)) ((rd_T100 l1 (rd l2 a3)).f0) ((rd_T100 l1 (rd l2 a3)).f1) ((rd_T100 l1 (rd l2 a3)).f2) ((rd_T100 l1 (rd l2 a3)).f3) ((rd_T100 l1 (rd l2 a3)).f4)) else (none)) = some r := by rw [if_neg (show ¬ (false = true) by decide)] at H; exact H
   clear H
   have H := H1
   clear H1
   by_cases c22 : a3 < (l0.length : Int)
   rotate_left
   ·rw [if_neg c22] at H
    exact absurd H (by simp)
   rw [if_pos c22] at H
   have c22b0 := decide_eq_true c22
   clear c22
   have H' := zb H
   clear H
   have p140 : 0 ≤ (x12_1 : Int) := zO
   have q140 : x12_1 < (l2.length : Int) := zO
   obtain ⟨ad140, e140, hx140_0⟩ := zaj HR2.out x12_1 p140 q140
   obtain rfl : ad133 = ad140 := (by injection e140)
   replace hx140_0 := (HB.out.cell (za w _ hx140_0)).trans hx140_0
   replace p140 := eq_true p140
   replace q140 := eq_true q140
   have p141 : 0 ≤ (a3 : Int) := zO
   have q141 : a3 < (l2.length : Int) := zO
   obtain ⟨ad141, e141, hx141_0⟩ := zaj HR2.out a3 p141 q141
   obtain rfl : ad133 = ad141 := (by injection e141)
   replace hx141_0 := (HB.out.cell (za w _ hx141_0)).trans hx141_0
   replace p141 := eq_true p141
   replace q141 := eq_true q141
   have p142 : 0 ≤ (x12_1 : Int) := zO
   have q142 : x12_1 < (l0.length : Int) := zO
   obtain ⟨ad142, e142, hx142_0, hx142_1, hx142_2⟩ := at_T98 HR0.out x12_1 p142 q142
   obtain rfl : ad136 = ad142 := (by injection e142)
   replace hx142_0 := (HB.out.cell (za w _ hx142_0)).trans hx142_0
   replace hx142_1 := (HB.out.cell (za w _ hx142_1)).trans hx142_1
   replace hx142_2 := (HB.out.cell (za w _ hx142_2)).trans hx142_2
   replace p142 := eq_true p142
   replace q142 := eq_true q142
   have p143 : 0 ≤ (x12_1 : Int) := zO
   have q143 : x12_1 < (l0.length : Int) := zO
   obtain ⟨ad143, e143, hx143_0, hx143_1, hx143_2⟩ := at_T98 HR0.out x12_1 p143 q143
   obtain rfl : ad136 = ad143 := (by injection e143)
   replace hx143_0 := (HB.out.cell (za w _ hx143_0)).trans hx143_0
   replace hx143_1 := (HB.out.cell (za w _ hx143_1)).trans hx143_1
   replace hx143_2 := (HB.out.cell (za w _ hx143_2)).trans hx143_2
   replace p143 := eq_true p143
   replace q143 := eq_true q143
   have p144 : 0 ≤ (a3 : Int) := zO
   have q144 : a3 < (l0.length : Int) := zO
   obtain ⟨ad144, e144, hx144_0, hx144_1, hx144_2⟩ := at_T98 HR0.out a3 p144 q144
   obtain rfl : ad136 = ad144 := (by injection e144)
   replace hx144_0 := (HB.out.cell (za w _ hx144_0)).trans hx144_0
   replace hx144_1 := (HB.out.cell (za w _ hx144_1)).trans hx144_1
   replace hx144_2 := (HB.out.cell (za w _ hx144_2)).trans hx144_2
   replace p144 := eq_true p144
   replace q144 := eq_true q144
   have p145 : 0 ≤ (x12_1 : Int) := zO
   have q145 : x12_1 < (l0.length : Int) := zO
   obtain ⟨ad145, e145, hx145_0, hx145_1, hx145_2⟩ := at_T98 HR0.out x12_1 p145 q145
   obtain rfl : ad136 = ad145 := (by injection e145)
   replace hx145_0 := (HB.out.cell (za w _ hx145_0)).trans hx145_0
   replace hx145_1 := (HB.out.cell (za w _ hx145_1)).trans hx145_1
   replace hx145_2 := (HB.out.cell (za w _ hx145_2)).trans hx145_2
   replace p145 := eq_true p145
   replace q145 := eq_true q145
   have hcz23_0 : wr.cell? ⟨gb135, 0, none⟩ = some (.string ((rd_T100 l1 (rd l2 a3)).f0)) := (zg BK135.out 0).trans rfl
   have hcz23_1 : wr.cell? ⟨gb135, 1, none⟩ = some (.int .i64 ((rd_T100 l1 (rd l2 a3)).f1)) := (zg BK135.out 1).trans rfl
   have hcz23_2 : wr.cell? ⟨gb135, 2, none⟩ = some (.int .i64 ((rd_T100 l1 (rd l2 a3)).f2)) := (zg BK135.out 2).trans rfl
   have hcz23_3 : wr.cell? ⟨gb135, 3, none⟩ = some (.int .i64 ((rd_T100 l1 (rd l2 a3)).f3)) := (zg BK135.out 3).trans rfl
   have hcz23_4 : wr.cell? ⟨gb135, 4, none⟩ = some (.slice A134_4 ((rd_T100 l1 (rd l2 a3)).f4).length c134_4) := (zg BK135.out 4).trans rfl
   have hfz23_0 := zf BK135.out 0
   have hfz23_1 := zf BK135.out 1
   have hfz23_2 := zf BK135.out 2
   have hfz23_3 := zf BK135.out 3
   have hfz23_4 := zf BK135.out 4
   go_wp2
   repeat (go_quiet (fail); try go_wp2)
   go_roundg k1
   case measure => have := HK1.out; omega
   case rel => exact ⟨(wrap64 (x10_1 + (wrap64 (((rd_T98 l0 x12_1).f1) - ((rd_T98 l0 x12_1).f0))))), (decide (((rd_T98 l0 a3).f0) < (wrap64 (((rd_T98 l0 x12_1).f1) + ((rd_T100 l1 (rd l2 a3)).f2))))), (wrap64 (x12_1 + 1)), zG95, zG95, zG95, H', ⟨zH104⟩, ⟨zH80⟩, ⟨zH57⟩⟩
/-! ### spec_l21Cost: function 55 -/
def spec_l21Cost.l0 : Nat → List (S98) → List (S100) → List Int → Int → Int → Option (Int)
 | 0, _, _, _, _, _ => none
 | k + 1, x0, x1, x2, x7, x8 => if x8 < (x2.length : Int) then (if 0 ≤ x8 then (if x8 < (x0.length : Int) then (if 0 ≤ (rd x2 x8) then (if (rd x2 x8) < (x1.length : Int) then (spec_l21Cost.l0 k x0 x1 x2 (wrap64 (x7 + (wrap64 ((wrap64 (((rd_T98 x0 x8).f1) - ((rd_T98 x0 x8).f0))) * ((rd_T100 x1 (rd x2 x8)).f3))))) (wrap64 (x8 + 1))) else (none)) else (none)) else (none)) else (none)) else (some x7)
def spec_l21Cost.f (k : Nat) (l0 : List (S98)) (l1 : List (S100)) (l2 : List Int) : Option (Int) := spec_l21Cost.l0 k l0 l1 l2 0 0
theorem spec_l21Cost.mono_l : ∀ k, (∀ y0 y1 y2 y3 y4, LeO (spec_l21Cost.l0 k y0 y1 y2 y3 y4) (spec_l21Cost.l0 (k + 1) y0 y1 y2 y3 y4))
 | 0 => fun _ _ _ _ _ r h => by simp [spec_l21Cost.l0] at h
 | k + 1 => by
  have ih0 := spec_l21Cost.mono_l k
  ·intro y0 y1 y2 y3 y4
   unfold spec_l21Cost.l0
   repeat' first
   | (with_reducible exact ih0 _ _ _ _ _)
   | (with_reducible exact LeO.refl _)
   | (with_reducible exact LeO.none _)
   | (with_reducible refine LeO.ite ?_ ?_)
   | (with_reducible refine LeO.bind ?_ (fun _ => ?_))
   | exact ih0 _ _ _ _ _
   | exact LeO.none _
   | refine LeO.ite ?_ ?_
   | refine LeO.bind ?_ (fun _ => ?_)
theorem spec_l21Cost.mono : ∀ a0 a1 a2 k, LeO (spec_l21Cost.f k a0 a1 a2) (spec_l21Cost.f (k + 1) a0 a1 a2) := by
 intro a0 a1 a2 k
 have ih0 := spec_l21Cost.mono_l k
 unfold spec_l21Cost.f
 repeat' first
   | (with_reducible exact ih0 _ _ _ _ _)
   | (with_reducible exact LeO.refl _)
   | (with_reducible exact LeO.none _)
   | (with_reducible refine LeO.ite ?_ ?_)
   | (with_reducible refine LeO.bind ?_ (fun _ => ?_))
   | exact ih0 _ _ _ _ _
   | exact LeO.none _
   | refine LeO.ite ?_ ?_
   | refine LeO.bind ?_ (fun _ => ?_)
set_option maxHeartbeats 8000000 in
set_option maxRecDepth 100000 in
theorem spec_l21Cost.calls (k : Nat) (A0 : Option Addr) (c0 : Nat) (l0 : List (S98)) (A1 : Option Addr) (c1 : Nat) (l1 : List (S100)) (A2 : Option Addr) (c2 : Nat) (l2 : List Int) (r : Int) (w : World) (hr0 : Kd.C k98 w A0 l0.length l0) (hc0 : l0.length ≤ c0) (hr1 : Kd.C k100 w A1 l1.length l1) (hc1 : l1.length ≤ c1) (hr2 : Kd.C (Kd.int .i64) w A2 l2.length l2) (hc2 : l2.length ≤ c2) (h : spec_l21Cost.f k l0 l1 l2 = some r) :
  Calls Try.prog 55 #[.slice A0 l0.length c0, .slice A1 l1.length c1, .slice A2 l2.length c2] w fun e w' => e = .returned (.int .i64 r) ∧ Drawn0 w w' := by
 have HR0 := zb hr0
 have HC0 := zb hc0
 clear hr0 hc0
 have HR1 := zb hr1
 have HC1 := zb hc1
 clear hr1 hc1
 have HR2 := zb hr2
 have HC2 := zb hc2
 clear hr2 hc2
 have H : (spec_l21Cost.l0 k l0 l1 l2 0 0) = some r := h
 clear h
 have H' := zb H
 clear H
 go_enter Try.func55, Try.ntmps55
 go_wp2
 repeat (go_quiet (fail); try go_wp2)
 go_loopg [7, 8] k (fun kq v7 v8 w' => ∃ (x7_1 : Int) (x8_1 : Int), v7 = .int .i64 x7_1 ∧ v8 = .int .i64 x8_1 ∧ Aside0 (spec_l21Cost.l0 kq l0 l1 l2 x7_1 x8_1 = some r) ∧ Aside0 (kq ≤ k) ∧ Drawn0 w w')
 case atStart => exact ⟨(0), (0), zG95, zG95, H', ⟨Nat.le_refl _⟩, zH95⟩
 case round =>
  clear H'
  try clear c1
  try clear c2
  try clear p2
  obtain ⟨x7_1, x8_1, rfl, rfl, HA, HK1, ⟨m1, rfl⟩⟩ := hrel
  cases gk with
  | zero => exact absurd HA.out (by simp [spec_l21Cost.l0])
  | succ k1 =>
   have H := HA.out
   clear HA
   simp only [spec_l21Cost.l0] at H
   by_cases c4 : x8_1 < (l2.length : Int)
   rotate_left
   ·rw [if_neg c4] at H
    have c4b0 := decide_eq_false c4
    clear c4
    obtain rfl := Option.some.inj H
    go_wp2
    repeat (go_quiet (fail); try go_wp2)
    go_ret
    exact zH68

   rw [if_pos c4] at H
   have c4b0 := decide_eq_true c4
   clear c4
   by_cases c5 : 0 ≤ x8_1
   rotate_left
   ·rw [if_neg c5] at H
    exact absurd H (by simp)
   rw [if_pos c5] at H
   have c5b0 := decide_eq_true c5
   clear c5
   by_cases c6 : x8_1 < (l0.length : Int)
   rotate_left
   ·rw [if_neg c6] at H
    exact absurd H (by simp)
   rw [if_pos c6] at H
   have c6b0 := decide_eq_true c6
   clear c6
   by_cases c7 : 0 ≤ (rd l2 x8_1)
   rotate_left
   ·rw [if_neg c7] at H
    exact absurd H (by simp)
   rw [if_pos c7] at H
   have c7b0 := decide_eq_true c7
   clear c7
   by_cases c8 : (rd l2 x8_1) < (l1.length : Int)
   rotate_left
   ·rw [if_neg c8] at H
    exact absurd H (by simp)
   rw [if_pos c8] at H
   have c8b0 := decide_eq_true c8
   clear c8
   have H' := zb H
   clear H
   have p146 : 0 ≤ (x8_1 : Int) := zO
   have q146 : x8_1 < (l0.length : Int) := zO
   obtain ⟨ad146, e146, hx146_0, hx146_1, hx146_2⟩ := at_T98 HR0.out x8_1 p146 q146
   cases e146
   replace p146 := eq_true p146
   replace q146 := eq_true q146
   have p147 : 0 ≤ (x8_1 : Int) := zO
   have q147 : x8_1 < (l0.length : Int) := zO
   obtain ⟨ad147, e147, hx147_0, hx147_1, hx147_2⟩ := at_T98 HR0.out x8_1 p147 q147
   obtain rfl : ad146 = ad147 := (by injection e147)
   replace p147 := eq_true p147
   replace q147 := eq_true q147
   have p148 : 0 ≤ (x8_1 : Int) := zO
   have q148 : x8_1 < (l2.length : Int) := zO
   obtain ⟨ad148, e148, hx148_0⟩ := zaj HR2.out x8_1 p148 q148
   cases e148
   replace p148 := eq_true p148
   replace q148 := eq_true q148
   have p149 : 0 ≤ ((rd l2 x8_1) : Int) := zO
   have q149 : (rd l2 x8_1) < (l1.length : Int) := zO
   obtain ⟨ad149, A149_4, c149_4, e149, hx149_0, hx149_1, hx149_2, hx149_3, hx149_4, hl149_4, hi149_4⟩ := at_T100 HR1.out (rd l2 x8_1) p149 q149
   cases e149
   have HR149_4 := zb hi149_4
   have HC149_4 := zb hl149_4
   clear hi149_4 hl149_4
   replace p149 := eq_true p149
   replace q149 := eq_true q149
   go_wp2
   repeat (go_quiet (fail); try go_wp2)
   go_roundg k1
   case measure => have := HK1.out; omega
   case rel => exact ⟨(wrap64 (x7_1 + (wrap64 ((wrap64 (((rd_T98 l0 x8_1).f1) - ((rd_T98 l0 x8_1).f0))) * ((rd_T100 l1 (rd l2 x8_1)).f3))))), (wrap64 (x8_1 + 1)), zG95, zG95, H', ⟨zH104⟩, zH95⟩
end Go.Proofs.Ytjibigpdbpipcaa.R
