-- squeezed
-- made by pp.py (wip/tools) out of the translation; Lean checks it
import Derived.Laws.Cover3
import Derived.Test.YtjibigpdbpipcaaR0
import Derived.Test.YtjibigpdbpipcaaR1
import Derived.Test.YtjibigpdbpipcaaR6
import Derived.Test.YtjibigpdbpipcaaR9
import Derived.Test.YtjibigpdbpipcaaR10
namespace Go.Proofs.Ytjibigpdbpipcaa.R
open Go.RowKit Go.Proofs.YtjibigpdbpipcaaW.PrintWords Go.Proofs.YtjibigpdbpipcaaW.PrintLast Go.Proofs.YtjibigpdbpipcaaW.PrintMore
attribute [local go_sem] max2_int min2_int max_two min_two max_three min_three max_four min_four   -- for this text's walks alone
set_option linter.unusedVariables false
set_option linter.unusedSimpArgs false


/-! ### slices_Clone_int_int: function 63 -/
def slices_Clone_int_int.f (l0 : List Int) : Option (List Int) := (some (([] : List Int) : List Int)).bind fun y246 => (if y246.length + l0.length < 17592186044416 then (some (y246 ++ l0)) else (none))
set_option maxHeartbeats 8000000 in
set_option maxRecDepth 100000 in
theorem slices_Clone_int_int.calls (A0 : Option Addr) (c0 : Nat) (l0 : List Int) (r : List Int) (w : World) (hr0 : Kd.C (Kd.int .i64) w A0 l0.length l0) (hc0 : l0.length ≤ c0) (h : slices_Clone_int_int.f l0 = some r) :
  Calls Try.prog 63 #[.slice A0 l0.length c0] w fun e w' => ∃ v0_ : Value, e = .returned (v0_) ∧ Kd.R (Kd.int .i64) 3 w' w.heap.size (fun _ => True) v0_ r ∧ Below w.heap.size w w' := by
 have HR0 := zb hr0
 have HC0 := zb hc0
 clear hr0 hc0
 have HB := zb (Below.refl w.heap.size w)
 have H : ((some (([] : List Int) : List Int)).bind fun y246 => (if y246.length + l0.length < 17592186044416 then (some (y246 ++ l0)) else (none))) = some r := h
 clear h
 by_cases hA_ : A0 = none
 ·subst hA_
  have hl_ : l0 = [] := by
   cases l0 with
   | nil => rfl
   | cons x_ xs_ => obtain ⟨ad_, c_, e_, _⟩ := Kd.C_get HR0.out x_ 0 (by decide) (by simp); cases e_
  subst hl_
  have e_ : [] = r := by simpa using H
  subst e_
  go_enter Try.func63, Try.ntmps63
  have hnil0_ : ∀ (W_ : World) (n_ c_ : Nat), (binOp .eql 24 (.slice none n_ c_) (.slice none 0 0)).run Try.prog W_ = .ok (.bool true) W_ := fun W_ n_ c_ => by simp only [binOp]; simp [run_equal_slice_nil W_ 24 3 none n_ c_ Try.underlying24]
  go_wp2
  go_ret
  exact ⟨_, rfl, zax _ _ _ _ _, HB.out⟩
 have hnil0_ : ∀ (W_ : World) (n_ c_ : Nat), (binOp .eql 24 (.slice A0 n_ c_) (.slice none 0 0)).run Try.prog W_ = .ok (.bool false) W_ := fun W_ n_ c_ => by cases A0 with | none => exact absurd rfl hA_ | some ad_ => simp only [binOp]; simp [run_equal_slice_nil W_ 24 3 (some ad_) n_ c_ Try.underlying24]
 obtain ⟨y246, hy246⟩ : ∃ y_ : List Int, y_ = (([] : List Int)) := ⟨_, rfl⟩
 replace H : (if y246.length + l0.length < 17592186044416 then (some (y246 ++ l0)) else (none)) = some r := by first | (rw [hy246]; with_reducible exact H) | (have H2_ := (Option.bind_some _ _).symm.trans H; rw [hy246]; with_reducible exact H2_) | (have H2_ := (Option.bind_some _ _).symm.trans H; with_reducible exact H2_) | with_reducible exact H | (rw [hy246]; exact H) | exact H
 have Ny246 := zb hy246
 clear hy246
 by_cases c2 : y246.length + l0.length < 17592186044416
 rotate_left
 ·rw [if_neg c2] at H
  exact absurd H (by simp)

 rw [if_pos c2] at H
 have LMc2 := zb c2
 clear c2
 obtain ⟨y249, hy249⟩ : ∃ y_ : List Int, y_ = (y246 ++ l0) := ⟨_, rfl⟩
 replace H : (some y249) = some r := by first | (rw [hy249]; with_reducible exact H) | (have H2_ := (Option.bind_some _ _).symm.trans H; rw [hy249]; with_reducible exact H2_) | (have H2_ := (Option.bind_some _ _).symm.trans H; with_reducible exact H2_) | with_reducible exact H | (rw [hy249]; exact H) | exact H
 have Ny249 := zb hy249
 clear hy249
 obtain rfl := Option.some.inj H
 go_enter Try.func63, Try.ntmps63
 go_wp2_with (first | ((with_reducible refine gate_dst (N := 5) rfl ?_); refine Kd.R_lit (Kd.int .i64) _ 3 ?hg (N := 5) ?hd (xs := ([] : List Int)) (inner := []) (ok := fun _ => True) (okp := fun _ => True) ?hr ?hp (fun _ hk => hk) trivial (Below.refl _ _) (Nat.le_refl _) (by simp) ?_; (case hd => rfl); (case hg => rfl); (case hr => exact zH100); (case hp => exact (Reps.none _ _)); intro v247 w3 ho4 hb hg_ hnew_; clear hg_ hnew_; (first | rw [← Ny246.out] at ho4 | (simp only [Int.reduceToNat] at ho4; rw [← Ny246.out] at ho4)); have n_ := zA_ (zb (zag ho4 (zo zG76))) (zb (zq zG76 hb)); clear HB; obtain ⟨HO248, HB⟩ := n_; clear hb ho4) | ((with_reducible refine gate_builtin (b := .append) (xs := #[.tmp 5, .tmp 6]) rfl ?_); at_builtin; refine Kd.R_append_rows (Kd.int .i64) (w0 := w) w.heap.size rfl (.tmp 5) (.tmp 6) 24 3 (.int .i64 0) 8 rfl Try.underlying24 info3 rfl (by decide) (by omega) v247 y246 l0 _ _ _ (fun _ => True) (fun _ => False) rfl rfl ?aO ?aR (fun _ _ h => h) (fun _ h => h.elim) ?aF ?aB ?aS ?aL ?_; (case aR => exact zH50); (case aB => exact zG76); (case aF => exact (fun _ _ => trivial)); (case aO => exact (by (with_reducible repeat (first | apply zl | apply zm | apply zn)); exact HO248.out)); (case aS => exact (zo zG76)); (case aL => have := LMc2.out; omega); intro v250 w5 ho hb hg hat; rw [← Ny249.out] at ho; have n_ := zA_ (zb (hb)) (zb (ho)); clear HB HO248; obtain ⟨HB, HO251⟩ := n_; clear ho hb hg hat))
 go_ret
 exact ⟨_, zH89, by (with_reducible repeat (first | apply zl | apply zm | apply zn)); exact HO251.out, zH79⟩
/-! ### impl_costOf: function 64 -/
def impl_costOf.l0 : Nat → List (S98) → List (S100) → Int → List Int → Int → Int → Option (Int)
 | 0, _, _, _, _, _, _ => none
 | k + 1, x0, x1, x7, x10, x11, x12 => if x12 < x11 then (if 0 ≤ x12 then (if x12 < (x10.length : Int) then (if x12 < (x0.length : Int) then (if 0 ≤ (rd x10 x12) then (if (rd x10 x12) < (x1.length : Int) then (impl_costOf.l0 k x0 x1 (wrap64 (x7 + (wrap64 ((wrap64 (((rd_T98 x0 x12).f1) - ((rd_T98 x0 x12).f0))) * ((rd_T100 x1 (rd x10 x12)).f3))))) x10 x11 (wrap64 (x12 + 1))) else (none)) else (none)) else (none)) else (none)) else (none)) else (some x7)
def impl_costOf.f (k : Nat) (l0 : List (S98)) (l1 : List (S100)) (l2 : List Int) : Option (Int) := impl_costOf.l0 k l0 l1 0 l2 (l2.length : Int) 0
theorem impl_costOf.mono_l : ∀ k, (∀ y0 y1 y2 y3 y4 y5, LeO (impl_costOf.l0 k y0 y1 y2 y3 y4 y5) (impl_costOf.l0 (k + 1) y0 y1 y2 y3 y4 y5))
 | 0 => fun _ _ _ _ _ _ r h => by simp [impl_costOf.l0] at h
 | k + 1 => by
  have ih0 := impl_costOf.mono_l k
  ·intro y0 y1 y2 y3 y4 y5
   unfold impl_costOf.l0
   repeat' first
   | (with_reducible exact ih0 _ _ _ _ _ _)
   | (with_reducible exact LeO.refl _)
   | (with_reducible exact LeO.none _)
   | (with_reducible refine LeO.ite ?_ ?_)
   | (with_reducible refine LeO.bind ?_ (fun _ => ?_))
   | exact ih0 _ _ _ _ _ _
   | exact LeO.none _
   | refine LeO.ite ?_ ?_
   | refine LeO.bind ?_ (fun _ => ?_)
theorem impl_costOf.mono : ∀ a0 a1 a2 k, LeO (impl_costOf.f k a0 a1 a2) (impl_costOf.f (k + 1) a0 a1 a2) := by
 intro a0 a1 a2 k
 have ih0 := impl_costOf.mono_l k
 unfold impl_costOf.f
 repeat' first
   | (with_reducible exact ih0 _ _ _ _ _ _)
   | (with_reducible exact LeO.refl _)
   | (with_reducible exact LeO.none _)
   | (with_reducible refine LeO.ite ?_ ?_)
   | (with_reducible refine LeO.bind ?_ (fun _ => ?_))
   | exact ih0 _ _ _ _ _ _
   | exact LeO.none _
   | refine LeO.ite ?_ ?_
   | refine LeO.bind ?_ (fun _ => ?_)
set_option maxHeartbeats 8000000 in
set_option maxRecDepth 100000 in
theorem impl_costOf.calls (k : Nat) (A0 : Option Addr) (c0 : Nat) (l0 : List (S98)) (A1 : Option Addr) (c1 : Nat) (l1 : List (S100)) (A2 : Option Addr) (c2 : Nat) (l2 : List Int) (r : Int) (w : World) (hr0 : Kd.C k98 w A0 l0.length l0) (hc0 : l0.length ≤ c0) (hr1 : Kd.C k100 w A1 l1.length l1) (hc1 : l1.length ≤ c1) (hr2 : Kd.C (Kd.int .i64) w A2 l2.length l2) (hc2 : l2.length ≤ c2) (h : impl_costOf.f k l0 l1 l2 = some r) :
  Calls Try.prog 64 #[.slice A0 l0.length c0, .slice A1 l1.length c1, .slice A2 l2.length c2] w fun e w' => e = .returned (.int .i64 r) ∧ Drawn0 w w' := by
 have HR0 := zb hr0
 have HC0 := zb hc0
 clear hr0 hc0
 have HR1 := zb hr1
 have HC1 := zb hc1
 clear hr1 hc1
 have HR2 := zb hr2
 have HC2 := zb hc2
 clear hr2 hc2
 have H : (impl_costOf.l0 k l0 l1 0 l2 (l2.length : Int) 0) = some r := h
 clear h
 have H' := zb H
 clear H
 go_enter Try.func64, Try.ntmps64
 go_wp2
 repeat (go_quiet (fail); try go_wp2)
 go_loopg [7, 12] k (fun kq v7 v12 w' => ∃ (x7_1 : Int) (x12_1 : Int), v7 = .int .i64 x7_1 ∧ v12 = .int .i64 x12_1 ∧ Aside0 (impl_costOf.l0 kq l0 l1 x7_1 l2 (l2.length : Int) x12_1 = some r) ∧ Aside0 (kq ≤ k) ∧ Drawn0 w w')
 case atStart => exact ⟨(0), (0), zG95, zG95, H', ⟨Nat.le_refl _⟩, zH95⟩
 case round =>
  clear H'
  try clear c1
  try clear c2
  try clear p2
  obtain ⟨x7_1, x12_1, rfl, rfl, HA, HK1, ⟨m1, rfl⟩⟩ := hrel
  cases gk with
  | zero => exact absurd HA.out (by simp [impl_costOf.l0])
  | succ k1 =>
   have H := HA.out
   clear HA
   simp only [impl_costOf.l0] at H
   by_cases c4 : x12_1 < (l2.length : Int)
   rotate_left
   ·rw [if_neg c4] at H
    have c4b0 := decide_eq_false c4
    clear c4
    obtain rfl := Option.some.inj H
    go_wp2
    repeat (go_quiet (fail); try go_wp2)
    go_ret
    exact zH68

   rw [if_pos c4] at H
   have c4b0 := decide_eq_true c4
   clear c4
   by_cases c5 : 0 ≤ x12_1
   rotate_left
   ·rw [if_neg c5] at H
    exact absurd H (by simp)
   rw [if_pos c5] at H
   have c5b0 := decide_eq_true c5
   clear c5
   by_cases c6 : x12_1 < (l2.length : Int)
   rotate_left
   ·rw [if_neg c6] at H
    exact absurd H (by simp)
   rw [if_pos c6] at H
   have c6b0 := decide_eq_true c6
   clear c6
   by_cases c7 : x12_1 < (l0.length : Int)
   rotate_left
   ·rw [if_neg c7] at H
    exact absurd H (by simp)
   rw [if_pos c7] at H
   have c7b0 := decide_eq_true c7
   clear c7
   by_cases c8 : 0 ≤ (rd l2 x12_1)
   rotate_left
   ·rw [if_neg c8] at H
    exact absurd H (by simp)
   rw [if_pos c8] at H
   have c8b0 := decide_eq_true c8
   clear c8
   by_cases c9 : (rd l2 x12_1) < (l1.length : Int)
   rotate_left
   ·rw [if_neg c9] at H
    exact absurd H (by simp)
   rw [if_pos c9] at H
   have c9b0 := decide_eq_true c9
   clear c9
   have H' := zb H
   clear H
   have p252 : 0 ≤ (x12_1 : Int) := zO
   have q252 : x12_1 < (l2.length : Int) := zO
   obtain ⟨ad252, e252, hx252_0⟩ := zaj HR2.out x12_1 p252 q252
   cases e252
   replace p252 := eq_true p252
   replace q252 := eq_true q252
   have p253 : 0 ≤ (x12_1 : Int) := zO
   have q253 : x12_1 < (l0.length : Int) := zO
   obtain ⟨ad253, e253, hx253_0, hx253_1, hx253_2⟩ := at_T98 HR0.out x12_1 p253 q253
   cases e253
   replace p253 := eq_true p253
   replace q253 := eq_true q253
   have p254 : 0 ≤ (x12_1 : Int) := zO
   have q254 : x12_1 < (l0.length : Int) := zO
   obtain ⟨ad254, e254, hx254_0, hx254_1, hx254_2⟩ := at_T98 HR0.out x12_1 p254 q254
   obtain rfl : ad253 = ad254 := (by injection e254)
   replace p254 := eq_true p254
   replace q254 := eq_true q254
   have p255 : 0 ≤ ((rd l2 x12_1) : Int) := zO
   have q255 : (rd l2 x12_1) < (l1.length : Int) := zO
   obtain ⟨ad255, A255_4, c255_4, e255, hx255_0, hx255_1, hx255_2, hx255_3, hx255_4, hl255_4, hi255_4⟩ := at_T100 HR1.out (rd l2 x12_1) p255 q255
   cases e255
   have HR255_4 := zb hi255_4
   have HC255_4 := zb hl255_4
   clear hi255_4 hl255_4
   replace p255 := eq_true p255
   replace q255 := eq_true q255
   go_wp2
   repeat (go_quiet (fail); try go_wp2)
   go_roundg k1
   case measure => have := HK1.out; omega
   case rel => exact ⟨(wrap64 (x7_1 + (wrap64 ((wrap64 (((rd_T98 l0 x12_1).f1) - ((rd_T98 l0 x12_1).f0))) * ((rd_T100 l1 (rd l2 x12_1)).f3))))), (wrap64 (x12_1 + 1)), zG95, zG95, H', ⟨zH104⟩, zH95⟩
/-! ### impl_RosterOf: function 26 -/
mutual
def impl_RosterOf.j0 : Nat → List (S98) → List (S100) → List Int → Bool → Option (List Int × Int × Int × Int)
 | 0, _, _, _, _ => none
 | k + 1, x0, x1, x2, x12 => if x12 = true then (some (([] : List Int), 0, 2, 0)) else ((impl_ShiftsOK.f k x0 x1).bind fun t260 => (if t260 = true then (if (x2.length : Int) = (x0.length : Int) then (impl_RosterOf.l0 k x0 x1 x2 x2 (x2.length : Int) 0) else (some (([] : List Int), 0, 3, 0))) else (some (([] : List Int), 0, 1, 0))))
def impl_RosterOf.l0 : Nat → List (S98) → List (S100) → List Int → List Int → Int → Int → Option (List Int × Int × Int × Int)
 | 0, _, _, _, _, _, _ => none
 | k + 1, x0, x1, x2, x40, x41, x42 => if x42 < x41 then (if 0 ≤ x42 then (if x42 < (x40.length : Int) then ((impl_within.f (rd x40 x42) 0 (wrap64 ((x1.length : Int) - 1))).bind fun t266 => (if t266 = true then (if x42 ≤ (x2.length : Int) then ((impl_shiftCode.f k x0 x1 (x2.take (x42 : Int).toNat) (rd x40 x42)).bind fun t268 => (if t268 = 0 then (impl_RosterOf.l0 k x0 x1 x2 x40 x41 (wrap64 (x42 + 1))) else (some (([] : List Int), 0, t268, x42)))) else (none)) else (some (([] : List Int), 0, 5, x42)))) else (none)) else (none)) else ((slices_Clone_int_int.f x2).bind fun t261 => ((impl_costOf.f k x0 x1 x2).bind fun t264 => (some (t261, t264, 0, 0))))
end
def impl_RosterOf.f (k : Nat) (l0 : List (S98)) (l1 : List (S100)) (l2 : List Int) : Option (List Int × Int × Int × Int) := (impl_Shift.f l0).bind fun t257 => (if t257 = true then ((impl_Worker.f l1).bind fun t258 => (if t258 = true then ((impl_isList_int.f l2).bind fun t259 => (impl_RosterOf.j0 k l0 l1 l2 (!t259))) else (impl_RosterOf.j0 k l0 l1 l2 true))) else (impl_RosterOf.j0 k l0 l1 l2 true))
theorem impl_RosterOf.mono_l : ∀ k, (∀ y0 y1 y2 y3, LeO (impl_RosterOf.j0 k y0 y1 y2 y3) (impl_RosterOf.j0 (k + 1) y0 y1 y2 y3)) ∧ (∀ y0 y1 y2 y3 y4 y5, LeO (impl_RosterOf.l0 k y0 y1 y2 y3 y4 y5) (impl_RosterOf.l0 (k + 1) y0 y1 y2 y3 y4 y5))
 | 0 => ⟨fun _ _ _ _ r h => by simp [impl_RosterOf.j0] at h, fun _ _ _ _ _ _ r h => by simp [impl_RosterOf.l0] at h⟩
 | k + 1 => by
  obtain ⟨ih0, ih1⟩ := impl_RosterOf.mono_l k
  refine ⟨?_, ?_⟩
  ·intro y0 y1 y2 y3
   unfold impl_RosterOf.j0
   repeat' first
   | (with_reducible exact ih0 _ _ _ _)
   | (with_reducible exact ih1 _ _ _ _ _ _)
   | (with_reducible exact impl_ShiftsOK.mono _ _ _)
   | (with_reducible exact impl_costOf.mono _ _ _ _)
   | (with_reducible exact impl_shiftCode.mono _ _ _ _ _)
   | (with_reducible exact LeO.refl _)
   | (with_reducible exact LeO.none _)
   | (with_reducible refine LeO.ite ?_ ?_)
   | (with_reducible refine LeO.bind ?_ (fun _ => ?_))
   | exact ih0 _ _ _ _
   | exact ih1 _ _ _ _ _ _
   | exact impl_ShiftsOK.mono _ _ _
   | exact impl_costOf.mono _ _ _ _
   | exact impl_shiftCode.mono _ _ _ _ _
   | exact LeO.none _
   | refine LeO.ite ?_ ?_
   | refine LeO.bind ?_ (fun _ => ?_)
  ·intro y0 y1 y2 y3 y4 y5
   unfold impl_RosterOf.l0
   repeat' first
   | (with_reducible exact ih0 _ _ _ _)
   | (with_reducible exact ih1 _ _ _ _ _ _)
   | (with_reducible exact impl_ShiftsOK.mono _ _ _)
   | (with_reducible exact impl_costOf.mono _ _ _ _)
   | (with_reducible exact impl_shiftCode.mono _ _ _ _ _)
   | (with_reducible exact LeO.refl _)
   | (with_reducible exact LeO.none _)
   | (with_reducible refine LeO.ite ?_ ?_)
   | (with_reducible refine LeO.bind ?_ (fun _ => ?_))
   | exact ih0 _ _ _ _
   | exact ih1 _ _ _ _ _ _
   | exact impl_ShiftsOK.mono _ _ _
   | exact impl_costOf.mono _ _ _ _
   | exact impl_shiftCode.mono _ _ _ _ _
   | exact LeO.none _
   | refine LeO.ite ?_ ?_
   | refine LeO.bind ?_ (fun _ => ?_)
theorem impl_RosterOf.mono : ∀ a0 a1 a2 k, LeO (impl_RosterOf.f k a0 a1 a2) (impl_RosterOf.f (k + 1) a0 a1 a2) := by
 intro a0 a1 a2 k
 obtain ⟨ih0, ih1⟩ := impl_RosterOf.mono_l k
 unfold impl_RosterOf.f
 repeat' first
   | (with_reducible exact ih0 _ _ _ _)
   | (with_reducible exact ih1 _ _ _ _ _ _)
   | (with_reducible exact impl_ShiftsOK.mono _ _ _)
   | (with_reducible exact impl_costOf.mono _ _ _ _)
   | (with_reducible exact impl_shiftCode.mono _ _ _ _ _)
   | (with_reducible exact LeO.refl _)
   | (with_reducible exact LeO.none _)
   | (with_reducible refine LeO.ite ?_ ?_)
   | (with_reducible refine LeO.bind ?_ (fun _ => ?_))
   | exact ih0 _ _ _ _
   | exact ih1 _ _ _ _ _ _
   | exact impl_ShiftsOK.mono _ _ _
   | exact impl_costOf.mono _ _ _ _
   | exact impl_shiftCode.mono _ _ _ _ _
   | exact LeO.none _
   | refine LeO.ite ?_ ?_
   | refine LeO.bind ?_ (fun _ => ?_)
set_option maxHeartbeats 8000000 in
set_option maxRecDepth 100000 in
theorem impl_RosterOf.calls (k : Nat) (A0 : Option Addr) (c0 : Nat) (l0 : List (S98)) (A1 : Option Addr) (c1 : Nat) (l1 : List (S100)) (A2 : Option Addr) (c2 : Nat) (l2 : List Int) (r1 : List Int) (r2 : Int) (r3 : Int) (r4 : Int) (w : World) (hr0 : Kd.C k98 w A0 l0.length l0) (hc0 : l0.length ≤ c0) (hr1 : Kd.C k100 w A1 l1.length l1) (hc1 : l1.length ≤ c1) (hr2 : Kd.C (Kd.int .i64) w A2 l2.length l2) (hc2 : l2.length ≤ c2) (h : impl_RosterOf.f k l0 l1 l2 = some (r1, r2, r3, r4)) :
  Calls Try.prog 26 #[.slice A0 l0.length c0, .slice A1 l1.length c1, .slice A2 l2.length c2] w fun e w' => ∃ v0_ : Value, e = .returned (.tuple #[.agg #[v0_, .int .i64 r2], .int .i64 r3, .int .i64 r4]) ∧ Kd.R (Kd.int .i64) 3 w' w.heap.size (fun _ => True) v0_ r1 ∧ Below w.heap.size w w' := by
 have hu50 := Try.underlying50
 have HR0 := zb hr0
 have HC0 := zb hc0
 clear hr0 hc0
 have HR1 := zb hr1
 have HC1 := zb hc1
 clear hr1 hc1
 have HR2 := zb hr2
 have HC2 := zb hc2
 clear hr2 hc2
 have HB := zb (Below.refl w.heap.size w)
 have H : ((impl_Shift.f l0).bind fun t257 => (if t257 = true then ((impl_Worker.f l1).bind fun t258 => (if t258 = true then ((impl_isList_int.f l2).bind fun t259 => (impl_RosterOf.j0 k l0 l1 l2 (!t259))) else (impl_RosterOf.j0 k l0 l1 l2 true))) else (impl_RosterOf.j0 k l0 l1 l2 true))) = some (r1, r2, r3, r4) := h
 clear h
 have HC4 := zb H
 clear H
 go_enter Try.func26, Try.ntmps26
 go_upto_region 1 with (first | ((with_reducible refine gate_dst (N := 6) rfl ?_); refine box_event ?hg (N := 6) ?hd (cs := #[.slice none 0 0, .int .i64 0]) (t := 50) ?hr ?_; (case hd => rfl); (case hg => rfl); (case hr => exact zH100); intro gb256 hg w5 hbox hb; have n_ := zA_ (zb (zq zG76 hb)) (zA_ (zb (hbox)) (zA_ (zb ((by rw [hg]; exact (zo zG76) : w.heap.size ≤ gb256))) (zb ((by rw [hg]; exact (zo zG76) : w.heap.size ≤ gb256))))); clear HB; obtain ⟨HB, BK256, GW256, GE256⟩ := n_; clear hb hbox hg))
 (try simp only [Act.put, List.setIfInBounds_toArray, List.set_cons_zero, List.set_cons_succ])
 go_cut [12] (fun v12 wc => ∃ (kq : Nat) (x12_3 : Bool), v12 = .bool x12_3 ∧ Aside0 (impl_RosterOf.j0 kq l0 l1 l2 x12_3 = some (r1, r2, r3, r4)) ∧ Aside0 (kq ≤ k) ∧ Aside0 (wc.heap[gb256]? = some (.cells #[(.slice none 0 0), .int .i64 0] 50 (0, 0))) ∧ Aside0 (Below w.heap.size w wc))
 case first =>
  have H := HC4.out
  clear HC4
  replace H := Option.bind_eq_some_iff.mp H
  obtain ⟨t257, A60, H⟩ := H
  replace H : (if t257 = true then ((impl_Worker.f l1).bind fun t258 => (if t258 = true then ((impl_isList_int.f l2).bind fun t259 => (impl_RosterOf.j0 k l0 l1 l2 (!t259))) else (impl_RosterOf.j0 k l0 l1 l2 true))) else (impl_RosterOf.j0 k l0 l1 l2 true)) = some (r1, r2, r3, r4) := H
  have A6 := zb A60
  clear A60
  by_cases c7 : t257 = true
  rotate_left
  ·replace c7 := Bool.eq_false_iff.mpr c7
   subst c7
   have H1 : (impl_RosterOf.j0 k l0 l1 l2 true) = some (r1, r2, r3, r4) := by rw [if_neg (show ¬ (false = true) by decide)] at H; exact H
   clear H
   have H := H1
   clear H1
   have H' := zb H
   clear H
   go_wp2_with (first | ((with_reducible refine gate_callee (f := 58) rfl ?_); refine goesL_ (some 14) rfl rfl Try.func58 zG96 rfl #[.slice A0 l0.length c0] rfl zG65 ?_; (with_reducible refine (impl_Shift.calls _ _ l0 false _ ?side1 ?side2 A6.out).mono ?_); (case side1 => exact zH50); (case side2 => exact HC0.out); rintro e w' ⟨rfl, ⟨nd, rfl⟩⟩; refine ⟨_, rfl, ?_⟩))
   go_meet
   case rel => exact ⟨_, (true), zG95, H', ⟨zH101⟩, ⟨zH86⟩, ⟨zH59⟩⟩
  subst c7
  have H1 : ((impl_Worker.f l1).bind fun t258 => (if t258 = true then ((impl_isList_int.f l2).bind fun t259 => (impl_RosterOf.j0 k l0 l1 l2 (!t259))) else (impl_RosterOf.j0 k l0 l1 l2 true))) = some (r1, r2, r3, r4) := by rw [if_pos rfl] at H; exact H
  clear H
  have H := H1
  clear H1
  replace H := Option.bind_eq_some_iff.mp H
  obtain ⟨t258, A80, H⟩ := H
  replace H : (if t258 = true then ((impl_isList_int.f l2).bind fun t259 => (impl_RosterOf.j0 k l0 l1 l2 (!t259))) else (impl_RosterOf.j0 k l0 l1 l2 true)) = some (r1, r2, r3, r4) := H
  have A8 := zb A80
  clear A80
  by_cases c9 : t258 = true
  rotate_left
  ·replace c9 := Bool.eq_false_iff.mpr c9
   subst c9
   have H1 : (impl_RosterOf.j0 k l0 l1 l2 true) = some (r1, r2, r3, r4) := by rw [if_neg (show ¬ (false = true) by decide)] at H; exact H
   clear H
   have H := H1
   clear H1
   have H' := zb H
   clear H
   go_wp2_with (first | ((with_reducible refine gate_callee (f := 58) rfl ?_); refine goesL_ (some 14) rfl rfl Try.func58 zG96 rfl #[.slice A0 l0.length c0] rfl zG65 ?_; (with_reducible refine (impl_Shift.calls _ _ l0 true _ ?side1 ?side2 A6.out).mono ?_); (case side1 => exact zH50); (case side2 => exact HC0.out); rintro e w' ⟨rfl, ⟨nd, rfl⟩⟩; refine ⟨_, rfl, ?_⟩) | (go_at_call 59; (with_reducible refine (impl_Worker.calls _ _ l1 false _ ?side1 ?side2 A8.out).mono ?_); (case side1 => exact zH51); (case side2 => exact HC1.out); rintro e w' ⟨rfl, ⟨nd, rfl⟩⟩))
   go_meet
   case rel => exact ⟨_, (true), zG95, H', ⟨zH101⟩, ⟨zH86⟩, ⟨zH59⟩⟩
  subst c9
  have H1 : ((impl_isList_int.f l2).bind fun t259 => (impl_RosterOf.j0 k l0 l1 l2 (!t259))) = some (r1, r2, r3, r4) := by rw [if_pos rfl] at H; exact H
  clear H
  have H := H1
  clear H1
  replace H := Option.bind_eq_some_iff.mp H
  obtain ⟨t259, A100, H⟩ := H
  replace H : (impl_RosterOf.j0 k l0 l1 l2 (!t259)) = some (r1, r2, r3, r4) := H
  have A10 := zb A100
  clear A100
  have H' := zb H
  clear H
  go_wp2_with (first | ((with_reducible refine gate_callee (f := 58) rfl ?_); refine goesL_ (some 14) rfl rfl Try.func58 zG96 rfl #[.slice A0 l0.length c0] rfl zG65 ?_; (with_reducible refine (impl_Shift.calls _ _ l0 true _ ?side1 ?side2 A6.out).mono ?_); (case side1 => exact zH50); (case side2 => exact HC0.out); rintro e w' ⟨rfl, ⟨nd, rfl⟩⟩; refine ⟨_, rfl, ?_⟩) | (go_at_call 59; (with_reducible refine (impl_Worker.calls _ _ l1 true _ ?side1 ?side2 A8.out).mono ?_); (case side1 => exact zH51); (case side2 => exact HC1.out); rintro e w' ⟨rfl, ⟨nd, rfl⟩⟩) | (go_at_call 43; (with_reducible refine (impl_isList_int.calls _ _ l2 t259 _ ?side1 ?side2 A10.out).mono ?_); (case side1 => repeat (first | exact (zw HR2.out zG66) | (with_reducible refine zr ?_ _) | (with_reducible refine zs ?_ _) | (with_reducible refine zt ?_))); (case side2 => exact HC2.out); rintro e w' ⟨rfl, ⟨nd, rfl⟩⟩))
  go_meet
  case rel => exact ⟨_, (!t259), zG95, H', ⟨zH101⟩, ⟨zH86⟩, ⟨zH59⟩⟩
 case rest =>
  clear HC4
  try clear c1
  try clear c2
  try clear p2
  try clear c5
  try clear c7
  try clear c9
  obtain ⟨kq, x12_3, rfl, HA, HJ3, BK256, HB⟩ := hcut
  cases kq with
  | zero => exact absurd HA.out (by simp [impl_RosterOf.j0])
  | succ kj3 =>
   have H := HA.out
   clear HA
   simp only [impl_RosterOf.j0] at H
   by_cases c11 : x12_3 = true
   ·subst c11
    have H1 : (some (([] : List Int), 0, 2, 0)) = some (r1, r2, r3, r4) := by rw [if_pos rfl] at H; exact H
    clear H
    have H := H1
    clear H1
    simp only [Option.some.injEq, Prod.mk.injEq] at H
    obtain ⟨rfl, rfl, rfl, rfl⟩ := H
    have hcz12_0 : wc.cell? ⟨gb256, 0, none⟩ = some (.slice none 0 0) := (zg BK256.out 0).trans rfl
    have hcz12_1 : wc.cell? ⟨gb256, 1, none⟩ = some (.int .i64 0) := (zg BK256.out 1).trans rfl
    have hfz12_0 := zf BK256.out 0
    have hfz12_1 := zf BK256.out 1
    go_wp2
    refine bodyPost_ret (results_ctt rfl _ _ gb256 50 #[.slice none 0 0, .int .i64 0] (0, 0) _ rfl zK111 Try.underlying50 rfl zG96) rfl ?_
    exact zH9
   replace c11 := Bool.eq_false_iff.mpr c11
   subst c11
   have H1 : ((impl_ShiftsOK.f kj3 l0 l1).bind fun t260 => (if t260 = true then (if (l2.length : Int) = (l0.length : Int) then (impl_RosterOf.l0 kj3 l0 l1 l2 l2 (l2.length : Int) 0) else (some (([] : List Int), 0, 3, 0))) else (some (([] : List Int), 0, 1, 0)))) = some (r1, r2, r3, r4) := by rw [if_neg (show ¬ (false = true) by decide)] at H; exact H
   clear H
   have H := H1
   clear H1
   replace H := Option.bind_eq_some_iff.mp H
   obtain ⟨t260, A130, H⟩ := H
   replace H : (if t260 = true then (if (l2.length : Int) = (l0.length : Int) then (impl_RosterOf.l0 kj3 l0 l1 l2 l2 (l2.length : Int) 0) else (some (([] : List Int), 0, 3, 0))) else (some (([] : List Int), 0, 1, 0))) = some (r1, r2, r3, r4) := H
   have A13 := zb A130
   clear A130
   by_cases c14 : t260 = true
   rotate_left
   ·replace c14 := Bool.eq_false_iff.mpr c14
    subst c14
    have H1 : (some (([] : List Int), 0, 1, 0)) = some (r1, r2, r3, r4) := by rw [if_neg (show ¬ (false = true) by decide)] at H; exact H
    clear H
    have H := H1
    clear H1
    simp only [Option.some.injEq, Prod.mk.injEq] at H
    obtain ⟨rfl, rfl, rfl, rfl⟩ := H
    go_wp2_with (first | ((with_reducible refine gate_callee (f := 60) rfl ?_); refine goesL_ (some 30) rfl rfl Try.func60 zG96 rfl #[.slice A0 l0.length c0, .slice A1 l1.length c1] rfl zG65 ?_; (with_reducible refine (impl_ShiftsOK.calls kj3 _ _ l0 _ _ l1 false _ ?side1 ?side2 ?side3 ?side4 A13.out).mono ?_); (case side1 => exact zH50); (case side2 => exact HC0.out); (case side3 => exact zH49); (case side4 => exact HC1.out); rintro e w42 ⟨rfl, hb⟩; refine ⟨_, rfl, ?_⟩; have n_ := zA_ (zb (zu (g := gb256) (o := .cells #[.slice none 0 0, .int .i64 0] 50 (0, 0)) zK172 hb)) (zb (zq zG66 hb)); clear BK256 HB; obtain ⟨BK256, HB⟩ := n_; (try clear hb); have hcz43_0 : w42.cell? ⟨gb256, 0, none⟩ = some (.slice none 0 0) := (zg BK256.out 0).trans rfl; have hcz43_1 : w42.cell? ⟨gb256, 1, none⟩ = some (.int .i64 0) := (zg BK256.out 1).trans rfl; have hfz43_0 := zf BK256.out 0; have hfz43_1 := zf BK256.out 1))
    refine bodyPost_ret (results_ctt rfl _ _ gb256 50 #[.slice none 0 0, .int .i64 0] (0, 0) _ rfl zK111 Try.underlying50 rfl zG96) rfl ?_
    exact zH9

   subst c14
   have H1 : (if (l2.length : Int) = (l0.length : Int) then (impl_RosterOf.l0 kj3 l0 l1 l2 l2 (l2.length : Int) 0) else (some (([] : List Int), 0, 3, 0))) = some (r1, r2, r3, r4) := by rw [if_pos rfl] at H; exact H
   clear H
   have H := H1
   clear H1
   by_cases c15 : (l2.length : Int) = (l0.length : Int)
   rotate_left
   ·rw [if_neg c15] at H
    have c15b0 : ((l2.length : Int) == (l0.length : Int)) = false := beq_eq_false_iff_ne.mpr c15
    have c15b1 : ((l2.length : Int) != (l0.length : Int)) = true := bne_iff_ne.mpr c15
    have c15b2 : (l2.length == l0.length) = false := by first | simpa using c15 | (simp at c15 ⊢; omega)
    simp only [Option.some.injEq, Prod.mk.injEq] at H
    obtain ⟨rfl, rfl, rfl, rfl⟩ := H
    go_wp2_with (first | ((with_reducible refine gate_callee (f := 60) rfl ?_); refine goesL_ (some 30) rfl rfl Try.func60 zG96 rfl #[.slice A0 l0.length c0, .slice A1 l1.length c1] rfl zG65 ?_; (with_reducible refine (impl_ShiftsOK.calls kj3 _ _ l0 _ _ l1 true _ ?side1 ?side2 ?side3 ?side4 A13.out).mono ?_); (case side1 => exact zH50); (case side2 => exact HC0.out); (case side3 => exact zH49); (case side4 => exact HC1.out); rintro e w40 ⟨rfl, hb⟩; refine ⟨_, rfl, ?_⟩; have n_ := zA_ (zb (zu (g := gb256) (o := .cells #[.slice none 0 0, .int .i64 0] 50 (0, 0)) zK172 hb)) (zb (zq zG66 hb)); clear BK256 HB; obtain ⟨BK256, HB⟩ := n_; (try clear hb); have hcz41_0 : w40.cell? ⟨gb256, 0, none⟩ = some (.slice none 0 0) := (zg BK256.out 0).trans rfl; have hcz41_1 : w40.cell? ⟨gb256, 1, none⟩ = some (.int .i64 0) := (zg BK256.out 1).trans rfl; have hfz41_0 := zf BK256.out 0; have hfz41_1 := zf BK256.out 1))
    refine bodyPost_ret (results_ctt rfl _ _ gb256 50 #[.slice none 0 0, .int .i64 0] (0, 0) _ rfl zK111 Try.underlying50 rfl zG96) rfl ?_
    exact zH9
   rw [if_pos c15] at H
   have c15b0 : ((l2.length : Int) == (l0.length : Int)) = true := beq_iff_eq.mpr c15
   have c15b1 : ((l2.length : Int) != (l0.length : Int)) = false := bne_eq_false_iff_eq.mpr c15
   have c15b2 : (l2.length == l0.length) = true := by first | simpa using c15 | (simp at c15 ⊢; omega)
   clear c15
   have H' := zb H
   clear H
   go_wp2_with (first | ((with_reducible refine gate_callee (f := 60) rfl ?_); refine goesL_ (some 30) rfl rfl Try.func60 zG96 rfl #[.slice A0 l0.length c0, .slice A1 l1.length c1] rfl zG65 ?_; (with_reducible refine (impl_ShiftsOK.calls kj3 _ _ l0 _ _ l1 true _ ?side1 ?side2 ?side3 ?side4 A13.out).mono ?_); (case side1 => exact zH50); (case side2 => exact HC0.out); (case side3 => exact zH49); (case side4 => exact HC1.out); rintro e w16 ⟨rfl, hb⟩; refine ⟨_, rfl, ?_⟩; have n_ := zA_ (zb (zu (g := gb256) (o := .cells #[.slice none 0 0, .int .i64 0] 50 (0, 0)) zK172 hb)) (zb (zq zG66 hb)); clear BK256 HB; obtain ⟨BK256, HB⟩ := n_; (try clear hb)))
   go_loopg [42] kj3 (fun kq v42 w' => ∃ (x42_2 : Int) (x257001_2 : Int), v42 = .int .i64 x42_2 ∧ Aside0 (impl_RosterOf.l0 kq l0 l1 l2 l2 (l2.length : Int) x42_2 = some (r1, r2, r3, r4)) ∧ Aside0 (kq ≤ kj3) ∧ Aside0 (w'.heap[gb256]? = some (.cells #[(.slice none 0 0), .int .i64 x257001_2] 50 (0, 0))) ∧ Aside0 (Below w.heap.size w w'))
   case atStart => exact ⟨(0), (0), zG95, H', ⟨Nat.le_refl _⟩, ⟨zH86⟩, ⟨zH59⟩⟩
   case round =>
    clear H'
    try clear c1
    try clear c2
    try clear p2
    try clear c5
    try clear c6
    try clear c7
    try clear c9
    try clear c11
    try clear c14
    try clear c15
    try clear c15b0
    try clear c15b1
    try clear c15b2
    try clear hcz12_0
    try clear hcz12_1
    try clear hfz12_0
    try clear hfz12_1
    try clear p2
    obtain ⟨x42_2, x257001_2, rfl, HA, HK2, BK256, HB⟩ := hrel
    cases gk with
    | zero => exact absurd HA.out (by simp [impl_RosterOf.l0])
    | succ k2 =>
     have H := HA.out
     clear HA
     simp only [impl_RosterOf.l0] at H
     by_cases c17 : x42_2 < (l2.length : Int)
     rotate_left
     ·rw [if_neg c17] at H
      have c17b0 := decide_eq_false c17
      clear c17
      replace H := Option.bind_eq_some_iff.mp H
      obtain ⟨t261, A340, H⟩ := H
      replace H : ((impl_costOf.f k2 l0 l1 l2).bind fun t264 => (some (t261, t264, 0, 0))) = some (r1, r2, r3, r4) := H
      have A34 := zb A340
      clear A340
      replace H := Option.bind_eq_some_iff.mp H
      obtain ⟨t264, A350, H⟩ := H
      replace H : (some (t261, t264, 0, 0)) = some (r1, r2, r3, r4) := H
      have A35 := zb A350
      clear A350
      simp only [Option.some.injEq, Prod.mk.injEq] at H
      obtain ⟨rfl, rfl, rfl, rfl⟩ := H
      go_wp2_with (first | ((with_reducible refine gate_callee (f := 63) rfl ?_); refine goesL_ (some 69) rfl rfl Try.func63 zG96 rfl #[.slice A2 l2.length c2] rfl zG65 ?_; (with_reducible refine (slices_Clone_int_int.calls _ _ l2 t261 _ ?side1 ?side2 A34.out).mono ?_); (case side1 => exact zH48); (case side2 => exact HC2.out); rintro e w36 ⟨v262, rfl, ho0, hb⟩; refine ⟨_, rfl, ?_⟩; have n_ := zA_ (zb (zag ho0 (zo zG66))) (zA_ (zb (zu (g := gb256) (o := .cells #[.slice none 0 0, .int .i64 x257001_2] 50 (0, 0)) zK172 hb)) (zb (zq zG66 hb))); clear BK256 HB; obtain ⟨HO263, BK256, HB⟩ := n_; (try clear hb); (try clear ho0)) | ((with_reducible refine gate_callee (f := 64) rfl ?_); refine goesL_ (some 73) rfl rfl Try.func64 zG96 rfl #[.slice A0 l0.length c0, .slice A1 l1.length c1, .slice A2 l2.length c2] rfl zG65 ?_; (with_reducible refine (impl_costOf.calls k2 _ _ l0 _ _ l1 _ _ l2 t264 _ ?side1 ?side2 ?side3 ?side4 ?side5 ?side6 A35.out).mono ?_); (case side1 => exact zH50); (case side2 => exact HC0.out); (case side3 => exact zH49); (case side4 => exact HC1.out); (case side5 => exact zH48); (case side6 => exact HC2.out); rintro e w' ⟨rfl, ⟨nd, rfl⟩⟩; refine ⟨_, rfl, ?_⟩; (try (rw [drewN_self w36]; generalize hq_ : World.drewN w36 _ = w36; have n0_ : Aside0 (Kd.R (Kd.int .i64) 3 w36 w.heap.size (fun _ => True) v262 t261) := ⟨by rw [← hq_]; exact (by (with_reducible repeat (first | apply zl | apply zm | apply zn)); exact HO263.out)⟩; have n1_ : Aside0 (w36.heap[gb256]? = some (.cells #[.slice none 0 0, .int .i64 x257001_2] 50 (0, 0))) := ⟨zH64⟩; have n2_ : Aside0 (Below w.heap.size w w36) := ⟨by rw [← hq_]; exact zG66⟩; clear HO263 BK256 HB hq_; have HO263 := n0_; have BK256 := n1_; have HB := n2_; clear n0_ n1_ n2_)); (try have hcu37_0 : w36.cell? ⟨gb256, 0, none⟩ = some (.slice none 0 0) := (zg BK256.out 0).trans rfl); (try have hcu37_1 : w36.cell? ⟨gb256, 1, none⟩ = some (.int .i64 x257001_2) := (zg BK256.out 1).trans rfl); (try have hfcu37_0 := zf BK256.out 0); (try have hfcu37_1 := zf BK256.out 1); obtain ⟨Ao38, co38, eo38⟩ := zah HO263.out; subst eo38; have hcz39_0 : w36.cell? ⟨gb256, 0, none⟩ = some (.slice none 0 0) := (zg BK256.out 0).trans rfl; have hcz39_1 : w36.cell? ⟨gb256, 1, none⟩ = some (.int .i64 x257001_2) := (zg BK256.out 1).trans rfl; have hfz39_0 := zf BK256.out 0; have hfz39_1 := zf BK256.out 1))
      refine bodyPost_ret (results_ctt rfl _ _ gb256 50 #[.slice Ao38 t261.length co38, .int .i64 t264] (0, 0) _ rfl (by (with_reducible repeat (first | refine zi ?_ _ | refine zk ?_ | refine zj ?_ _)); refine zy (cs := #[.slice Ao38 t261.length co38, .int .i64 x257001_2]) ?_ 1 _ rfl; (with_reducible repeat (first | refine zi ?_ _ | refine zk ?_ | refine zj ?_ _)); refine zy (cs := #[.slice none 0 0, .int .i64 x257001_2]) ?_ 0 _ rfl; (with_reducible repeat (first | refine zi ?_ _ | refine zk ?_ | refine zj ?_ _)); exact BK256.out) Try.underlying50 rfl zG96) rfl ?_
      exact ⟨_, zH89, by (with_reducible repeat (first | apply zl | apply zm | apply zn)); exact zx (zv (p := ⟨gb256, 1, none⟩) (zv (p := ⟨gb256, 0, none⟩) (zab HO263.out BK256.out (by decide)) (fun _ hk => hk.2) (.slice Ao38 t261.length co38)) (fun _ hk => hk.2) (.int .i64 t264)) (fun _ hk => trivial), zH59⟩
     rw [if_pos c17] at H
     have c17b0 := decide_eq_true c17
     clear c17
     by_cases c18 : 0 ≤ x42_2
     rotate_left
     ·rw [if_neg c18] at H
      exact absurd H (by simp)
     rw [if_pos c18] at H
     have c18b0 := decide_eq_true c18
     clear c18
     by_cases c19 : x42_2 < (l2.length : Int)
     rotate_left
     ·rw [if_neg c19] at H
      exact absurd H (by simp)
     rw [if_pos c19] at H
     have c19b0 := decide_eq_true c19
     clear c19
     replace H := Option.bind_eq_some_iff.mp H
     obtain ⟨t266, A200, H⟩ := H
     replace H : (if t266 = true then (if x42_2 ≤ (l2.length : Int) then ((impl_shiftCode.f k2 l0 l1 (l2.take (x42_2 : Int).toNat) (rd l2 x42_2)).bind fun t268 => (if t268 = 0 then (impl_RosterOf.l0 k2 l0 l1 l2 l2 (l2.length : Int) (wrap64 (x42_2 + 1))) else (some (([] : List Int), 0, t268, x42_2)))) else (none)) else (some (([] : List Int), 0, 5, x42_2))) = some (r1, r2, r3, r4) := H
     have A20 := zb A200
     clear A200
     by_cases c21 : t266 = true
     rotate_left
     ·replace c21 := Bool.eq_false_iff.mpr c21
      subst c21
      have H1 : (some (([] : List Int), 0, 5, x42_2)) = some (r1, r2, r3, r4) := by rw [if_neg (show ¬ (false = true) by decide)] at H; exact H
      clear H
      have H := H1
      clear H1
      simp only [Option.some.injEq, Prod.mk.injEq] at H
      obtain ⟨rfl, rfl, rfl, rfl⟩ := H
      have p265 : 0 ≤ (x42_2 : Int) := zO
      have q265 : x42_2 < (l2.length : Int) := zO
      obtain ⟨ad265, e265, hx265_0⟩ := zaj HR2.out x42_2 p265 q265
      cases e265
      replace hx265_0 := (HB.out.cell (za w _ hx265_0)).trans hx265_0
      replace p265 := eq_true p265
      replace q265 := eq_true q265
      go_wp2_with (first | ((with_reducible refine gate_callee (f := 61) rfl ?_); refine goesL_ (some 51) rfl rfl Try.func61 zG96 rfl #[.int .i64 (rd l2 x42_2), .int .i64 0, .int .i64 (wrap64 ((l1.length : Int) - 1))] rfl zG65 ?_; (with_reducible refine (impl_within.calls (rd l2 x42_2) 0 (wrap64 ((l1.length : Int) - 1)) false _ A20.out).mono ?_); rintro e w' ⟨rfl, ⟨nd, rfl⟩⟩; refine ⟨_, rfl, ?_⟩; (try (rw [drewN_self wr]; generalize hq_ : World.drewN wr _ = wr; have n0_ : Aside0 (wr.heap[gb256]? = some (.cells #[.slice none 0 0, .int .i64 x257001_2] 50 (0, 0))) := ⟨zH64⟩; have n1_ : Aside0 (Below w.heap.size w wr) := ⟨by rw [← hq_]; exact zG66⟩; clear BK256 HB hq_; have BK256 := n0_; have HB := n1_; clear n0_ n1_)); (try have hcu32_0 : wr.cell? ⟨gb256, 0, none⟩ = some (.slice none 0 0) := (zg BK256.out 0).trans rfl); (try have hcu32_1 : wr.cell? ⟨gb256, 1, none⟩ = some (.int .i64 x257001_2) := (zg BK256.out 1).trans rfl); (try have hfcu32_0 := zf BK256.out 0); (try have hfcu32_1 := zf BK256.out 1); have hcz33_0 : wr.cell? ⟨gb256, 0, none⟩ = some (.slice none 0 0) := (zg BK256.out 0).trans rfl; have hcz33_1 : wr.cell? ⟨gb256, 1, none⟩ = some (.int .i64 x257001_2) := (zg BK256.out 1).trans rfl; have hfz33_0 := zf BK256.out 0; have hfz33_1 := zf BK256.out 1))
      refine bodyPost_ret (results_ctt rfl _ _ gb256 50 #[.slice none 0 0, .int .i64 0] (0, 0) _ rfl zK107 Try.underlying50 rfl zG96) rfl ?_
      exact zH9
     subst c21
     have H1 : (if x42_2 ≤ (l2.length : Int) then ((impl_shiftCode.f k2 l0 l1 (l2.take (x42_2 : Int).toNat) (rd l2 x42_2)).bind fun t268 => (if t268 = 0 then (impl_RosterOf.l0 k2 l0 l1 l2 l2 (l2.length : Int) (wrap64 (x42_2 + 1))) else (some (([] : List Int), 0, t268, x42_2)))) else (none)) = some (r1, r2, r3, r4) := by rw [if_pos rfl] at H; exact H
     clear H
     have H := H1
     clear H1
     have c22b0 := eq_true (zO : 0 ≤ x42_2)
     by_cases c23 : x42_2 ≤ (l2.length : Int)
     rotate_left
     ·rw [if_neg c23] at H
      exact absurd H (by simp)
     rw [if_pos c23] at H
     have c23b0 := eq_true c23
     have c23b1 := decide_eq_true c23
     clear c23
     replace H := Option.bind_eq_some_iff.mp H
     obtain ⟨t268, A240, H⟩ := H
     replace H : (if t268 = 0 then (impl_RosterOf.l0 k2 l0 l1 l2 l2 (l2.length : Int) (wrap64 (x42_2 + 1))) else (some (([] : List Int), 0, t268, x42_2))) = some (r1, r2, r3, r4) := H
     have A24 := zb A240
     clear A240
     by_cases c25 : t268 = 0
     rotate_left
     ·rw [if_neg c25] at H
      have c25b0 : (t268 == 0) = false := beq_eq_false_iff_ne.mpr c25
      have c25b1 : (t268 != 0) = true := bne_iff_ne.mpr c25
      simp only [Option.some.injEq, Prod.mk.injEq] at H
      obtain ⟨rfl, rfl, rfl, rfl⟩ := H
      have p265 : 0 ≤ (x42_2 : Int) := zO
      have q265 : x42_2 < (l2.length : Int) := zO
      obtain ⟨ad265, e265, hx265_0⟩ := zaj HR2.out x42_2 p265 q265
      cases e265
      replace hx265_0 := (HB.out.cell (za w _ hx265_0)).trans hx265_0
      replace p265 := eq_true p265
      replace q265 := eq_true q265
      go_wp2_with (first | ((with_reducible refine gate_callee (f := 61) rfl ?_); refine goesL_ (some 51) rfl rfl Try.func61 zG96 rfl #[.int .i64 (rd l2 x42_2), .int .i64 0, .int .i64 (wrap64 ((l1.length : Int) - 1))] rfl zG65 ?_; (with_reducible refine (impl_within.calls (rd l2 x42_2) 0 (wrap64 ((l1.length : Int) - 1)) true _ A20.out).mono ?_); rintro e w' ⟨rfl, ⟨nd, rfl⟩⟩; refine ⟨_, rfl, ?_⟩; (try (rw [drewN_self wr]; generalize hq_ : World.drewN wr _ = wr; have n0_ : Aside0 (wr.heap[gb256]? = some (.cells #[.slice none 0 0, .int .i64 x257001_2] 50 (0, 0))) := ⟨zH64⟩; have n1_ : Aside0 (Below w.heap.size w wr) := ⟨by rw [← hq_]; exact zG66⟩; clear BK256 HB hq_; have BK256 := n0_; have HB := n1_; clear n0_ n1_)); (try have hcu28_0 : wr.cell? ⟨gb256, 0, none⟩ = some (.slice none 0 0) := (zg BK256.out 0).trans rfl); (try have hcu28_1 : wr.cell? ⟨gb256, 1, none⟩ = some (.int .i64 x257001_2) := (zg BK256.out 1).trans rfl); (try have hfcu28_0 := zf BK256.out 0); (try have hfcu28_1 := zf BK256.out 1); obtain ⟨i029, hi029, _, hsz29, _⟩ := info_parts info3; obtain ⟨hcut29, hA29, hC29⟩ := print_take_of (P := Try.prog) (Value.int .i64) 0 24 3 .i64 Try.underlying24 hi029 hsz29 (some ad265) c2 l2 x42_2 zO zO HC2.out; have HR267 := zb (zbk (h1 := fun _ => rfl) (hA29 _ (zbl HR2.out))); have HC267 := zb hC29; clear hA29 hC29 hi029 hsz29) | ((with_reducible refine gate_callee (f := 62) rfl ?_); refine goesL_ (some 61) rfl rfl Try.func62 zG96 rfl #[.slice A0 l0.length c0, .slice A1 l1.length c1, .slice (some ad265) (l2.take (x42_2 : Int).toNat).length c2, .int .i64 (rd l2 x42_2)] rfl zK132 ?_; (with_reducible refine (impl_shiftCode.calls k2 _ _ l0 _ _ l1 _ _ (l2.take (x42_2 : Int).toNat) (rd l2 x42_2) t268 _ ?side1 ?side2 ?side3 ?side4 ?side5 ?side6 A24.out).mono ?_); (case side1 => exact zH50); (case side2 => exact HC0.out); (case side3 => exact zH49); (case side4 => exact HC1.out); (case side5 => repeat (first | exact (zw HR267.out HB.out) | (with_reducible refine zr ?_ _) | (with_reducible refine zs ?_ _) | (with_reducible refine zt ?_))); (case side6 => exact HC267.out); rintro e w30 ⟨rfl, hb⟩; refine ⟨_, rfl, ?_⟩; have n_ := zA_ (zb (zu (g := gb256) (o := .cells #[.slice none 0 0, .int .i64 x257001_2] 50 (0, 0)) zK172 hb)) (zb (zq zG66 hb)); clear BK256 HB; obtain ⟨BK256, HB⟩ := n_; (try clear hb); have hcz31_0 : w30.cell? ⟨gb256, 0, none⟩ = some (.slice none 0 0) := (zg BK256.out 0).trans rfl; have hcz31_1 : w30.cell? ⟨gb256, 1, none⟩ = some (.int .i64 x257001_2) := (zg BK256.out 1).trans rfl; have hfz31_0 := zf BK256.out 0; have hfz31_1 := zf BK256.out 1))
      refine bodyPost_ret (results_ctt rfl _ _ gb256 50 #[.slice none 0 0, .int .i64 0] (0, 0) _ rfl zK107 Try.underlying50 rfl zG96) rfl ?_
      exact zH9
     rw [if_pos c25] at H
     have c25b0 : (t268 == 0) = true := beq_iff_eq.mpr c25
     have c25b1 : (t268 != 0) = false := bne_eq_false_iff_eq.mpr c25
     clear c25
     have H' := zb H
     clear H
     have p265 : 0 ≤ (x42_2 : Int) := zO
     have q265 : x42_2 < (l2.length : Int) := zO
     obtain ⟨ad265, e265, hx265_0⟩ := zaj HR2.out x42_2 p265 q265
     cases e265
     replace hx265_0 := (HB.out.cell (za w _ hx265_0)).trans hx265_0
     replace p265 := eq_true p265
     replace q265 := eq_true q265
     go_wp2_with (first | ((with_reducible refine gate_callee (f := 61) rfl ?_); refine goesL_ (some 51) rfl rfl Try.func61 zG96 rfl #[.int .i64 (rd l2 x42_2), .int .i64 0, .int .i64 (wrap64 ((l1.length : Int) - 1))] rfl zG65 ?_; (with_reducible refine (impl_within.calls (rd l2 x42_2) 0 (wrap64 ((l1.length : Int) - 1)) true _ A20.out).mono ?_); rintro e w' ⟨rfl, ⟨nd, rfl⟩⟩; refine ⟨_, rfl, ?_⟩; obtain ⟨i026, hi026, _, hsz26, _⟩ := info_parts info3; obtain ⟨hcut26, hA26, hC26⟩ := print_take_of (P := Try.prog) (Value.int .i64) 0 24 3 .i64 Try.underlying24 hi026 hsz26 (some ad265) c2 l2 x42_2 zO zO HC2.out; have HR267 := zb (zbk (h1 := fun _ => rfl) (hA26 _ (zbl HR2.out))); have HC267 := zb hC26; clear hA26 hC26 hi026 hsz26) | ((with_reducible refine gate_callee (f := 62) rfl ?_); refine goesL_ (some 61) rfl rfl Try.func62 zG96 rfl #[.slice A0 l0.length c0, .slice A1 l1.length c1, .slice (some ad265) (l2.take (x42_2 : Int).toNat).length c2, .int .i64 (rd l2 x42_2)] rfl zK132 ?_; (with_reducible refine (impl_shiftCode.calls k2 _ _ l0 _ _ l1 _ _ (l2.take (x42_2 : Int).toNat) (rd l2 x42_2) t268 _ ?side1 ?side2 ?side3 ?side4 ?side5 ?side6 A24.out).mono ?_); (case side1 => repeat (first | exact (zw HR0.out zG66) | (with_reducible refine zr ?_ _) | (with_reducible refine zs ?_ _) | (with_reducible refine zt ?_))); (case side2 => exact HC0.out); (case side3 => exact zH51); (case side4 => exact HC1.out); (case side5 => repeat (first | exact (zw HR267.out zG66) | (with_reducible refine zr ?_ _) | (with_reducible refine zs ?_ _) | (with_reducible refine zt ?_))); (case side6 => exact HC267.out); rintro e w27 ⟨rfl, hb⟩; refine ⟨_, rfl, ?_⟩; have n_ := zA_ (zb (zu (g := gb256) (o := .cells #[.slice none 0 0, .int .i64 x257001_2] 50 (0, 0)) zK172 hb)) (zb (zq zG66 hb)); clear BK256 HB; obtain ⟨BK256, HB⟩ := n_; (try clear hb)))
     go_roundg k2
     case measure => have := HJ3.out; have := HK2.out; omega
     case rel => exact ⟨(wrap64 (x42_2 + 1)), (x257001_2), zG95, H', ⟨by have := HJ3.out; have := HK2.out; omega⟩, ⟨zH86⟩, ⟨zH59⟩⟩
/-! ### laws_eqRoster: function 27 -/
def laws_eqRoster.f (k : Nat) (l0_0 : List Int) (a0_1 : Int) (l1_0 : List Int) (a1_1 : Int) : Option (Bool) := (laws_eqIntS.f k l0_0 l1_0).bind fun t271 => (if t271 = true then (if a0_1 = a1_1 then (some true) else (some false)) else (some false))
theorem laws_eqRoster.mono : ∀ a0 a1 a2 a3 k, LeO (laws_eqRoster.f k a0 a1 a2 a3) (laws_eqRoster.f (k + 1) a0 a1 a2 a3) := by
 intro a0 a1 a2 a3 k
 unfold laws_eqRoster.f
 repeat' first
   | (with_reducible exact laws_eqIntS.mono _ _ _)
   | (with_reducible exact LeO.refl _)
   | (with_reducible exact LeO.none _)
   | (with_reducible refine LeO.ite ?_ ?_)
   | (with_reducible refine LeO.bind ?_ (fun _ => ?_))
   | exact laws_eqIntS.mono _ _ _
   | exact LeO.none _
   | refine LeO.ite ?_ ?_
   | refine LeO.bind ?_ (fun _ => ?_)
set_option maxHeartbeats 8000000 in
set_option maxRecDepth 100000 in
theorem laws_eqRoster.calls (k : Nat) (A0_0 : Option Addr) (c0_0 : Nat) (l0_0 : List Int) (a0_1 : Int) (A1_0 : Option Addr) (c1_0 : Nat) (l1_0 : List Int) (a1_1 : Int) (r : Bool) (w : World) (hr0_0 : Kd.C (Kd.int .i64) w A0_0 l0_0.length l0_0) (hc0_0 : l0_0.length ≤ c0_0) (hr1_0 : Kd.C (Kd.int .i64) w A1_0 l1_0.length l1_0) (hc1_0 : l1_0.length ≤ c1_0) (h : laws_eqRoster.f k l0_0 a0_1 l1_0 a1_1 = some r) :
  Calls Try.prog 27 #[.agg #[.slice A0_0 l0_0.length c0_0, .int .i64 a0_1], .agg #[.slice A1_0 l1_0.length c1_0, .int .i64 a1_1]] w fun e w' => e = .returned (.bool r) ∧ Below w.heap.size w w' := by
 have hu50 := Try.underlying50
 have HR0_0 := zb hr0_0
 have HC0_0 := zb hc0_0
 clear hr0_0 hc0_0
 have HR1_0 := zb hr1_0
 have HC1_0 := zb hc1_0
 clear hr1_0 hc1_0
 have HB := zb (Below.refl w.heap.size w)
 have H : ((laws_eqIntS.f k l0_0 l1_0).bind fun t271 => (if t271 = true then (if a0_1 = a1_1 then (some true) else (some false)) else (some false))) = some r := h
 clear h
 replace H := Option.bind_eq_some_iff.mp H
 obtain ⟨t271, A30, H⟩ := H
 replace H : (if t271 = true then (if a0_1 = a1_1 then (some true) else (some false)) else (some false)) = some r := H
 have A3 := zb A30
 clear A30
 by_cases c4 : t271 = true
 rotate_left
 ·replace c4 := Bool.eq_false_iff.mpr c4
  subst c4
  have H1 : (some false) = some r := by rw [if_neg (show ¬ (false = true) by decide)] at H; exact H
  clear H
  have H := H1
  clear H1
  obtain rfl := Option.some.inj H
  go_enter Try.func27, Try.ntmps27
  go_wp2_with (first | ((with_reducible refine gate_dst (N := 2) rfl ?_); refine box_event ?hg (N := 2) ?hd (cs := #[.slice A0_0 l0_0.length c0_0, .int .i64 a0_1]) (t := 50) ?hr ?_; (case hd => rfl); (case hg => rfl); (case hr => exact zH100); intro gb269 hg w16 hbox hb; have n_ := zA_ (zb (zq zG76 hb)) (zA_ (zb (hbox)) (zA_ (zb ((by rw [hg]; exact (zo zG76) : w.heap.size ≤ gb269))) (zb ((by rw [hg]; exact (zo zG76) : w.heap.size ≤ gb269))))); clear HB; obtain ⟨HB, BK269, GW269, GE269⟩ := n_; clear hb hbox hg) | ((with_reducible refine gate_dst (N := 3) rfl ?_); refine box_event ?hg (N := 3) ?hd (cs := #[.slice A1_0 l1_0.length c1_0, .int .i64 a1_1]) (t := 50) ?hr ?_; (case hd => rfl); (case hg => rfl); (case hr => exact zH100); intro gb270 hg w17 hbox hb; have n_ := zA_ (zb (zu (g := gb269) (o := .cells #[.slice A0_0 l0_0.length c0_0, .int .i64 a0_1] 50 (0, 0)) zK173 hb)) (zA_ (zb (zq zK154 hb)) (zA_ (zb (hbox)) (zA_ (zb ((by rw [hg]; exact (zo zK154) : w.heap.size ≤ gb270))) (zA_ (zb ((by rw [hg]; exact (zo zK154) : w.heap.size ≤ gb270))) (zA_ (zb ((by rw [hg]; exact Nat.ne_of_lt (zae (g := gb269) (o := .cells #[.slice A0_0 l0_0.length c0_0, .int .i64 a0_1] 50 (0, 0)) zK173) : gb269 ≠ gb270))) (zb ((by rw [hg]; exact Nat.ne_of_gt (zae (g := gb269) (o := .cells #[.slice A0_0 l0_0.length c0_0, .int .i64 a0_1] 50 (0, 0)) zK173) : gb270 ≠ gb269)))))))); clear BK269 HB; obtain ⟨BK269, HB, BK270, GW270, GE270, NB269_270, NB270_269⟩ := n_; clear hb hbox hg; have hnb18 := NB269_270.out; have hnc18 := NB270_269.out; have hcz19_0 : w17.cell? ⟨gb269, 0, none⟩ = some (.slice A0_0 l0_0.length c0_0) := (zg BK269.out 0).trans rfl; have hcz19_1 : w17.cell? ⟨gb269, 1, none⟩ = some (.int .i64 a0_1) := (zg BK269.out 1).trans rfl; have hfz19_0 := zf BK269.out 0; have hfz19_1 := zf BK269.out 1; have hcz20_0 : w17.cell? ⟨gb270, 0, none⟩ = some (.slice A1_0 l1_0.length c1_0) := (zg BK270.out 0).trans rfl; have hcz20_1 : w17.cell? ⟨gb270, 1, none⟩ = some (.int .i64 a1_1) := (zg BK270.out 1).trans rfl; have hfz20_0 := zf BK270.out 0; have hfz20_1 := zf BK270.out 1) | ((with_reducible refine gate_callee (f := 15) rfl ?_); refine goesL_ (some 9) rfl rfl Try.func15 zG96 rfl #[.slice A0_0 l0_0.length c0_0, .slice A1_0 l1_0.length c1_0] rfl zG65 ?_; (with_reducible refine (laws_eqIntS.calls k _ _ l0_0 _ _ l1_0 false _ ?side1 ?side2 ?side3 ?side4 A3.out).mono ?_); (case side1 => exact zH45); (case side2 => exact HC0_0.out); (case side3 => exact zH43); (case side4 => exact HC1_0.out); rintro e w' ⟨rfl, ⟨nd, rfl⟩⟩; refine ⟨_, rfl, ?_⟩))
  go_ret
  exact zH12

 subst c4
 have H1 : (if a0_1 = a1_1 then (some true) else (some false)) = some r := by rw [if_pos rfl] at H; exact H
 clear H
 have H := H1
 clear H1
 by_cases c5 : a0_1 = a1_1
 rotate_left
 ·rw [if_neg c5] at H
  have c5b0 : (a0_1 == a1_1) = false := beq_eq_false_iff_ne.mpr c5
  have c5b1 : (a0_1 != a1_1) = true := bne_iff_ne.mpr c5
  obtain rfl := Option.some.inj H
  go_enter Try.func27, Try.ntmps27
  go_wp2_with (first | ((with_reducible refine gate_dst (N := 2) rfl ?_); refine box_event ?hg (N := 2) ?hd (cs := #[.slice A0_0 l0_0.length c0_0, .int .i64 a0_1]) (t := 50) ?hr ?_; (case hd => rfl); (case hg => rfl); (case hr => exact zH100); intro gb269 hg w11 hbox hb; have n_ := zA_ (zb (zq zG76 hb)) (zA_ (zb (hbox)) (zA_ (zb ((by rw [hg]; exact (zo zG76) : w.heap.size ≤ gb269))) (zb ((by rw [hg]; exact (zo zG76) : w.heap.size ≤ gb269))))); clear HB; obtain ⟨HB, BK269, GW269, GE269⟩ := n_; clear hb hbox hg) | ((with_reducible refine gate_dst (N := 3) rfl ?_); refine box_event ?hg (N := 3) ?hd (cs := #[.slice A1_0 l1_0.length c1_0, .int .i64 a1_1]) (t := 50) ?hr ?_; (case hd => rfl); (case hg => rfl); (case hr => exact zH100); intro gb270 hg w12 hbox hb; have n_ := zA_ (zb (zu (g := gb269) (o := .cells #[.slice A0_0 l0_0.length c0_0, .int .i64 a0_1] 50 (0, 0)) zK173 hb)) (zA_ (zb (zq zK154 hb)) (zA_ (zb (hbox)) (zA_ (zb ((by rw [hg]; exact (zo zK154) : w.heap.size ≤ gb270))) (zA_ (zb ((by rw [hg]; exact (zo zK154) : w.heap.size ≤ gb270))) (zA_ (zb ((by rw [hg]; exact Nat.ne_of_lt (zae (g := gb269) (o := .cells #[.slice A0_0 l0_0.length c0_0, .int .i64 a0_1] 50 (0, 0)) zK173) : gb269 ≠ gb270))) (zb ((by rw [hg]; exact Nat.ne_of_gt (zae (g := gb269) (o := .cells #[.slice A0_0 l0_0.length c0_0, .int .i64 a0_1] 50 (0, 0)) zK173) : gb270 ≠ gb269)))))))); clear BK269 HB; obtain ⟨BK269, HB, BK270, GW270, GE270, NB269_270, NB270_269⟩ := n_; clear hb hbox hg; have hnb13 := NB269_270.out; have hnc13 := NB270_269.out; have hcz14_0 : w12.cell? ⟨gb269, 0, none⟩ = some (.slice A0_0 l0_0.length c0_0) := (zg BK269.out 0).trans rfl; have hcz14_1 : w12.cell? ⟨gb269, 1, none⟩ = some (.int .i64 a0_1) := (zg BK269.out 1).trans rfl; have hfz14_0 := zf BK269.out 0; have hfz14_1 := zf BK269.out 1; have hcz15_0 : w12.cell? ⟨gb270, 0, none⟩ = some (.slice A1_0 l1_0.length c1_0) := (zg BK270.out 0).trans rfl; have hcz15_1 : w12.cell? ⟨gb270, 1, none⟩ = some (.int .i64 a1_1) := (zg BK270.out 1).trans rfl; have hfz15_0 := zf BK270.out 0; have hfz15_1 := zf BK270.out 1) | ((with_reducible refine gate_callee (f := 15) rfl ?_); refine goesL_ (some 9) rfl rfl Try.func15 zG96 rfl #[.slice A0_0 l0_0.length c0_0, .slice A1_0 l1_0.length c1_0] rfl zG65 ?_; (with_reducible refine (laws_eqIntS.calls k _ _ l0_0 _ _ l1_0 true _ ?side1 ?side2 ?side3 ?side4 A3.out).mono ?_); (case side1 => exact zH45); (case side2 => exact HC0_0.out); (case side3 => exact zH43); (case side4 => exact HC1_0.out); rintro e w' ⟨rfl, ⟨nd, rfl⟩⟩; refine ⟨_, rfl, ?_⟩))
  go_ret
  exact zH12
 rw [if_pos c5] at H
 have c5b0 : (a0_1 == a1_1) = true := beq_iff_eq.mpr c5
 have c5b1 : (a0_1 != a1_1) = false := bne_eq_false_iff_eq.mpr c5
 clear c5
 obtain rfl := Option.some.inj H
 go_enter Try.func27, Try.ntmps27
 go_wp2_with (first | ((with_reducible refine gate_dst (N := 2) rfl ?_); refine box_event ?hg (N := 2) ?hd (cs := #[.slice A0_0 l0_0.length c0_0, .int .i64 a0_1]) (t := 50) ?hr ?_; (case hd => rfl); (case hg => rfl); (case hr => exact zH100); intro gb269 hg w6 hbox hb; have n_ := zA_ (zb (zq zG76 hb)) (zA_ (zb (hbox)) (zA_ (zb ((by rw [hg]; exact (zo zG76) : w.heap.size ≤ gb269))) (zb ((by rw [hg]; exact (zo zG76) : w.heap.size ≤ gb269))))); clear HB; obtain ⟨HB, BK269, GW269, GE269⟩ := n_; clear hb hbox hg) | ((with_reducible refine gate_dst (N := 3) rfl ?_); refine box_event ?hg (N := 3) ?hd (cs := #[.slice A1_0 l1_0.length c1_0, .int .i64 a1_1]) (t := 50) ?hr ?_; (case hd => rfl); (case hg => rfl); (case hr => exact zH100); intro gb270 hg w7 hbox hb; have n_ := zA_ (zb (zu (g := gb269) (o := .cells #[.slice A0_0 l0_0.length c0_0, .int .i64 a0_1] 50 (0, 0)) zK173 hb)) (zA_ (zb (zq zK154 hb)) (zA_ (zb (hbox)) (zA_ (zb ((by rw [hg]; exact (zo zK154) : w.heap.size ≤ gb270))) (zA_ (zb ((by rw [hg]; exact (zo zK154) : w.heap.size ≤ gb270))) (zA_ (zb ((by rw [hg]; exact Nat.ne_of_lt (zae (g := gb269) (o := .cells #[.slice A0_0 l0_0.length c0_0, .int .i64 a0_1] 50 (0, 0)) zK173) : gb269 ≠ gb270))) (zb ((by rw [hg]; exact Nat.ne_of_gt (zae (g := gb269) (o := .cells #[.slice A0_0 l0_0.length c0_0, .int .i64 a0_1] 50 (0, 0)) zK173) : gb270 ≠ gb269)))))))); clear BK269 HB; obtain ⟨BK269, HB, BK270, GW270, GE270, NB269_270, NB270_269⟩ := n_; clear hb hbox hg; have hnb8 := NB269_270.out; have hnc8 := NB270_269.out; have hcz9_0 : w7.cell? ⟨gb269, 0, none⟩ = some (.slice A0_0 l0_0.length c0_0) := (zg BK269.out 0).trans rfl; have hcz9_1 : w7.cell? ⟨gb269, 1, none⟩ = some (.int .i64 a0_1) := (zg BK269.out 1).trans rfl; have hfz9_0 := zf BK269.out 0; have hfz9_1 := zf BK269.out 1; have hcz10_0 : w7.cell? ⟨gb270, 0, none⟩ = some (.slice A1_0 l1_0.length c1_0) := (zg BK270.out 0).trans rfl; have hcz10_1 : w7.cell? ⟨gb270, 1, none⟩ = some (.int .i64 a1_1) := (zg BK270.out 1).trans rfl; have hfz10_0 := zf BK270.out 0; have hfz10_1 := zf BK270.out 1) | ((with_reducible refine gate_callee (f := 15) rfl ?_); refine goesL_ (some 9) rfl rfl Try.func15 zG96 rfl #[.slice A0_0 l0_0.length c0_0, .slice A1_0 l1_0.length c1_0] rfl zG65 ?_; (with_reducible refine (laws_eqIntS.calls k _ _ l0_0 _ _ l1_0 true _ ?side1 ?side2 ?side3 ?side4 A3.out).mono ?_); (case side1 => exact zH45); (case side2 => exact HC0_0.out); (case side3 => exact zH43); (case side4 => exact HC1_0.out); rintro e w' ⟨rfl, ⟨nd, rfl⟩⟩; refine ⟨_, rfl, ?_⟩))
 go_ret
 exact zH12
/-! ### laws_eqShift: function 65 -/
def laws_eqShift.f (a0_0 : Int) (a0_1 : Int) (a0_2 : ByteArray) (a1_0 : Int) (a1_1 : Int) (a1_2 : ByteArray) : Option (Bool) := if a0_0 = a1_0 then (if a0_1 = a1_1 then (if a0_2.toList = a1_2.toList then (some true) else (some false)) else (some false)) else (some false)
set_option maxHeartbeats 8000000 in
set_option maxRecDepth 100000 in
theorem laws_eqShift.calls (a0_0 : Int) (a0_1 : Int) (a0_2 : ByteArray) (a1_0 : Int) (a1_1 : Int) (a1_2 : ByteArray) (r : Bool) (w : World) (h : laws_eqShift.f a0_0 a0_1 a0_2 a1_0 a1_1 a1_2 = some r) :
  Calls Try.prog 65 #[.agg #[.int .i64 a0_0, .int .i64 a0_1, .string a0_2], .agg #[.int .i64 a1_0, .int .i64 a1_1, .string a1_2]] w fun e w' => e = .returned (.bool r) ∧ Below w.heap.size w w' := by
 have hu98 := Try.underlying98
 have HB := zb (Below.refl w.heap.size w)
 have H : (if a0_0 = a1_0 then (if a0_1 = a1_1 then (if a0_2.toList = a1_2.toList then (some true) else (some false)) else (some false)) else (some false)) = some r := h
 clear h
 by_cases c3 : a0_0 = a1_0
 rotate_left
 ·rw [if_neg c3] at H
  have c3b0 : (a0_0 == a1_0) = false := beq_eq_false_iff_ne.mpr c3
  have c3b1 : (a0_0 != a1_0) = true := bne_iff_ne.mpr c3
  obtain rfl := Option.some.inj H
  go_enter Try.func65, Try.ntmps65
  go_wp2_with (first | ((with_reducible refine gate_dst (N := 2) rfl ?_); refine box_event ?hg (N := 2) ?hd (cs := #[.int .i64 a0_0, .int .i64 a0_1, .string a0_2]) (t := 98) ?hr ?_; (case hd => rfl); (case hg => rfl); (case hr => exact zH100); intro gb272 hg w21 hbox hb; have n_ := zA_ (zb (zq zG76 hb)) (zA_ (zb (hbox)) (zA_ (zb ((by rw [hg]; exact (zo zG76) : w.heap.size ≤ gb272))) (zb ((by rw [hg]; exact (zo zG76) : w.heap.size ≤ gb272))))); clear HB; obtain ⟨HB, BK272, GW272, GE272⟩ := n_; clear hb hbox hg) | ((with_reducible refine gate_dst (N := 3) rfl ?_); refine box_event ?hg (N := 3) ?hd (cs := #[.int .i64 a1_0, .int .i64 a1_1, .string a1_2]) (t := 98) ?hr ?_; (case hd => rfl); (case hg => rfl); (case hr => exact zH100); intro gb273 hg w22 hbox hb; have n_ := zA_ (zb (zu (g := gb272) (o := .cells #[.int .i64 a0_0, .int .i64 a0_1, .string a0_2] 98 (0, 0)) zK174 hb)) (zA_ (zb (zq zG67 hb)) (zA_ (zb (hbox)) (zA_ (zb ((by rw [hg]; exact (zo zG67) : w.heap.size ≤ gb273))) (zA_ (zb ((by rw [hg]; exact (zo zG67) : w.heap.size ≤ gb273))) (zA_ (zb ((by rw [hg]; exact Nat.ne_of_lt (zae (g := gb272) (o := .cells #[.int .i64 a0_0, .int .i64 a0_1, .string a0_2] 98 (0, 0)) zK174) : gb272 ≠ gb273))) (zb ((by rw [hg]; exact Nat.ne_of_gt (zae (g := gb272) (o := .cells #[.int .i64 a0_0, .int .i64 a0_1, .string a0_2] 98 (0, 0)) zK174) : gb273 ≠ gb272)))))))); clear BK272 HB; obtain ⟨BK272, HB, BK273, GW273, GE273, NB272_273, NB273_272⟩ := n_; clear hb hbox hg; have hnb23 := NB272_273.out; have hnc23 := NB273_272.out; have hcz24_0 : w22.cell? ⟨gb272, 0, none⟩ = some (.int .i64 a0_0) := (zg BK272.out 0).trans rfl; have hcz24_1 : w22.cell? ⟨gb272, 1, none⟩ = some (.int .i64 a0_1) := (zg BK272.out 1).trans rfl; have hcz24_2 : w22.cell? ⟨gb272, 2, none⟩ = some (.string a0_2) := (zg BK272.out 2).trans rfl; have hfz24_0 := zf BK272.out 0; have hfz24_1 := zf BK272.out 1; have hfz24_2 := zf BK272.out 2; have hcz25_0 : w22.cell? ⟨gb273, 0, none⟩ = some (.int .i64 a1_0) := (zg BK273.out 0).trans rfl; have hcz25_1 : w22.cell? ⟨gb273, 1, none⟩ = some (.int .i64 a1_1) := (zg BK273.out 1).trans rfl; have hcz25_2 : w22.cell? ⟨gb273, 2, none⟩ = some (.string a1_2) := (zg BK273.out 2).trans rfl; have hfz25_0 := zf BK273.out 0; have hfz25_1 := zf BK273.out 1; have hfz25_2 := zf BK273.out 2))
  go_ret
  exact zH14

 rw [if_pos c3] at H
 have c3b0 : (a0_0 == a1_0) = true := beq_iff_eq.mpr c3
 have c3b1 : (a0_0 != a1_0) = false := bne_eq_false_iff_eq.mpr c3
 clear c3
 by_cases c4 : a0_1 = a1_1
 rotate_left
 ·rw [if_neg c4] at H
  have c4b0 : (a0_1 == a1_1) = false := beq_eq_false_iff_ne.mpr c4
  have c4b1 : (a0_1 != a1_1) = true := bne_iff_ne.mpr c4
  obtain rfl := Option.some.inj H
  go_enter Try.func65, Try.ntmps65
  go_wp2_with (first | ((with_reducible refine gate_dst (N := 2) rfl ?_); refine box_event ?hg (N := 2) ?hd (cs := #[.int .i64 a0_0, .int .i64 a0_1, .string a0_2]) (t := 98) ?hr ?_; (case hd => rfl); (case hg => rfl); (case hr => exact zH100); intro gb272 hg w16 hbox hb; have n_ := zA_ (zb (zq zG76 hb)) (zA_ (zb (hbox)) (zA_ (zb ((by rw [hg]; exact (zo zG76) : w.heap.size ≤ gb272))) (zb ((by rw [hg]; exact (zo zG76) : w.heap.size ≤ gb272))))); clear HB; obtain ⟨HB, BK272, GW272, GE272⟩ := n_; clear hb hbox hg) | ((with_reducible refine gate_dst (N := 3) rfl ?_); refine box_event ?hg (N := 3) ?hd (cs := #[.int .i64 a1_0, .int .i64 a1_1, .string a1_2]) (t := 98) ?hr ?_; (case hd => rfl); (case hg => rfl); (case hr => exact zH100); intro gb273 hg w17 hbox hb; have n_ := zA_ (zb (zu (g := gb272) (o := .cells #[.int .i64 a0_0, .int .i64 a0_1, .string a0_2] 98 (0, 0)) zK174 hb)) (zA_ (zb (zq zG67 hb)) (zA_ (zb (hbox)) (zA_ (zb ((by rw [hg]; exact (zo zG67) : w.heap.size ≤ gb273))) (zA_ (zb ((by rw [hg]; exact (zo zG67) : w.heap.size ≤ gb273))) (zA_ (zb ((by rw [hg]; exact Nat.ne_of_lt (zae (g := gb272) (o := .cells #[.int .i64 a0_0, .int .i64 a0_1, .string a0_2] 98 (0, 0)) zK174) : gb272 ≠ gb273))) (zb ((by rw [hg]; exact Nat.ne_of_gt (zae (g := gb272) (o := .cells #[.int .i64 a0_0, .int .i64 a0_1, .string a0_2] 98 (0, 0)) zK174) : gb273 ≠ gb272)))))))); clear BK272 HB; obtain ⟨BK272, HB, BK273, GW273, GE273, NB272_273, NB273_272⟩ := n_; clear hb hbox hg; have hnb18 := NB272_273.out; have hnc18 := NB273_272.out; have hcz19_0 : w17.cell? ⟨gb272, 0, none⟩ = some (.int .i64 a0_0) := (zg BK272.out 0).trans rfl; have hcz19_1 : w17.cell? ⟨gb272, 1, none⟩ = some (.int .i64 a0_1) := (zg BK272.out 1).trans rfl; have hcz19_2 : w17.cell? ⟨gb272, 2, none⟩ = some (.string a0_2) := (zg BK272.out 2).trans rfl; have hfz19_0 := zf BK272.out 0; have hfz19_1 := zf BK272.out 1; have hfz19_2 := zf BK272.out 2; have hcz20_0 : w17.cell? ⟨gb273, 0, none⟩ = some (.int .i64 a1_0) := (zg BK273.out 0).trans rfl; have hcz20_1 : w17.cell? ⟨gb273, 1, none⟩ = some (.int .i64 a1_1) := (zg BK273.out 1).trans rfl; have hcz20_2 : w17.cell? ⟨gb273, 2, none⟩ = some (.string a1_2) := (zg BK273.out 2).trans rfl; have hfz20_0 := zf BK273.out 0; have hfz20_1 := zf BK273.out 1; have hfz20_2 := zf BK273.out 2))
  go_ret
  exact zH14
 rw [if_pos c4] at H
 have c4b0 : (a0_1 == a1_1) = true := beq_iff_eq.mpr c4
 have c4b1 : (a0_1 != a1_1) = false := bne_eq_false_iff_eq.mpr c4
 clear c4
 by_cases c5 : a0_2.toList = a1_2.toList
 rotate_left
 ·rw [if_neg c5] at H
  have c5b0 : (a0_2.toList == a1_2.toList) = false := beq_eq_false_iff_ne.mpr c5
  have c5b1 : (a0_2.toList != a1_2.toList) = true := bne_iff_ne.mpr c5
  obtain rfl := Option.some.inj H
  go_enter Try.func65, Try.ntmps65
  go_wp2_with (first | ((with_reducible refine gate_dst (N := 2) rfl ?_); refine box_event ?hg (N := 2) ?hd (cs := #[.int .i64 a0_0, .int .i64 a0_1, .string a0_2]) (t := 98) ?hr ?_; (case hd => rfl); (case hg => rfl); (case hr => exact zH100); intro gb272 hg w11 hbox hb; have n_ := zA_ (zb (zq zG76 hb)) (zA_ (zb (hbox)) (zA_ (zb ((by rw [hg]; exact (zo zG76) : w.heap.size ≤ gb272))) (zb ((by rw [hg]; exact (zo zG76) : w.heap.size ≤ gb272))))); clear HB; obtain ⟨HB, BK272, GW272, GE272⟩ := n_; clear hb hbox hg) | ((with_reducible refine gate_dst (N := 3) rfl ?_); refine box_event ?hg (N := 3) ?hd (cs := #[.int .i64 a1_0, .int .i64 a1_1, .string a1_2]) (t := 98) ?hr ?_; (case hd => rfl); (case hg => rfl); (case hr => exact zH100); intro gb273 hg w12 hbox hb; have n_ := zA_ (zb (zu (g := gb272) (o := .cells #[.int .i64 a0_0, .int .i64 a0_1, .string a0_2] 98 (0, 0)) zK174 hb)) (zA_ (zb (zq zG67 hb)) (zA_ (zb (hbox)) (zA_ (zb ((by rw [hg]; exact (zo zG67) : w.heap.size ≤ gb273))) (zA_ (zb ((by rw [hg]; exact (zo zG67) : w.heap.size ≤ gb273))) (zA_ (zb ((by rw [hg]; exact Nat.ne_of_lt (zae (g := gb272) (o := .cells #[.int .i64 a0_0, .int .i64 a0_1, .string a0_2] 98 (0, 0)) zK174) : gb272 ≠ gb273))) (zb ((by rw [hg]; exact Nat.ne_of_gt (zae (g := gb272) (o := .cells #[.int .i64 a0_0, .int .i64 a0_1, .string a0_2] 98 (0, 0)) zK174) : gb273 ≠ gb272)))))))); clear BK272 HB; obtain ⟨BK272, HB, BK273, GW273, GE273, NB272_273, NB273_272⟩ := n_; clear hb hbox hg; have hnb13 := NB272_273.out; have hnc13 := NB273_272.out; have hcz14_0 : w12.cell? ⟨gb272, 0, none⟩ = some (.int .i64 a0_0) := (zg BK272.out 0).trans rfl; have hcz14_1 : w12.cell? ⟨gb272, 1, none⟩ = some (.int .i64 a0_1) := (zg BK272.out 1).trans rfl; have hcz14_2 : w12.cell? ⟨gb272, 2, none⟩ = some (.string a0_2) := (zg BK272.out 2).trans rfl; have hfz14_0 := zf BK272.out 0; have hfz14_1 := zf BK272.out 1; have hfz14_2 := zf BK272.out 2; have hcz15_0 : w12.cell? ⟨gb273, 0, none⟩ = some (.int .i64 a1_0) := (zg BK273.out 0).trans rfl; have hcz15_1 : w12.cell? ⟨gb273, 1, none⟩ = some (.int .i64 a1_1) := (zg BK273.out 1).trans rfl; have hcz15_2 : w12.cell? ⟨gb273, 2, none⟩ = some (.string a1_2) := (zg BK273.out 2).trans rfl; have hfz15_0 := zf BK273.out 0; have hfz15_1 := zf BK273.out 1; have hfz15_2 := zf BK273.out 2))
  go_ret
  exact zH14
 rw [if_pos c5] at H
 have c5b0 : (a0_2.toList == a1_2.toList) = true := beq_iff_eq.mpr c5
 have c5b1 : (a0_2.toList != a1_2.toList) = false := bne_eq_false_iff_eq.mpr c5
 clear c5
 obtain rfl := Option.some.inj H
 go_enter Try.func65, Try.ntmps65
 go_wp2_with (first | ((with_reducible refine gate_dst (N := 2) rfl ?_); refine box_event ?hg (N := 2) ?hd (cs := #[.int .i64 a0_0, .int .i64 a0_1, .string a0_2]) (t := 98) ?hr ?_; (case hd => rfl); (case hg => rfl); (case hr => exact zH100); intro gb272 hg w6 hbox hb; have n_ := zA_ (zb (zq zG76 hb)) (zA_ (zb (hbox)) (zA_ (zb ((by rw [hg]; exact (zo zG76) : w.heap.size ≤ gb272))) (zb ((by rw [hg]; exact (zo zG76) : w.heap.size ≤ gb272))))); clear HB; obtain ⟨HB, BK272, GW272, GE272⟩ := n_; clear hb hbox hg) | ((with_reducible refine gate_dst (N := 3) rfl ?_); refine box_event ?hg (N := 3) ?hd (cs := #[.int .i64 a1_0, .int .i64 a1_1, .string a1_2]) (t := 98) ?hr ?_; (case hd => rfl); (case hg => rfl); (case hr => exact zH100); intro gb273 hg w7 hbox hb; have n_ := zA_ (zb (zu (g := gb272) (o := .cells #[.int .i64 a0_0, .int .i64 a0_1, .string a0_2] 98 (0, 0)) zK174 hb)) (zA_ (zb (zq zG67 hb)) (zA_ (zb (hbox)) (zA_ (zb ((by rw [hg]; exact (zo zG67) : w.heap.size ≤ gb273))) (zA_ (zb ((by rw [hg]; exact (zo zG67) : w.heap.size ≤ gb273))) (zA_ (zb ((by rw [hg]; exact Nat.ne_of_lt (zae (g := gb272) (o := .cells #[.int .i64 a0_0, .int .i64 a0_1, .string a0_2] 98 (0, 0)) zK174) : gb272 ≠ gb273))) (zb ((by rw [hg]; exact Nat.ne_of_gt (zae (g := gb272) (o := .cells #[.int .i64 a0_0, .int .i64 a0_1, .string a0_2] 98 (0, 0)) zK174) : gb273 ≠ gb272)))))))); clear BK272 HB; obtain ⟨BK272, HB, BK273, GW273, GE273, NB272_273, NB273_272⟩ := n_; clear hb hbox hg; have hnb8 := NB272_273.out; have hnc8 := NB273_272.out; have hcz9_0 : w7.cell? ⟨gb272, 0, none⟩ = some (.int .i64 a0_0) := (zg BK272.out 0).trans rfl; have hcz9_1 : w7.cell? ⟨gb272, 1, none⟩ = some (.int .i64 a0_1) := (zg BK272.out 1).trans rfl; have hcz9_2 : w7.cell? ⟨gb272, 2, none⟩ = some (.string a0_2) := (zg BK272.out 2).trans rfl; have hfz9_0 := zf BK272.out 0; have hfz9_1 := zf BK272.out 1; have hfz9_2 := zf BK272.out 2; have hcz10_0 : w7.cell? ⟨gb273, 0, none⟩ = some (.int .i64 a1_0) := (zg BK273.out 0).trans rfl; have hcz10_1 : w7.cell? ⟨gb273, 1, none⟩ = some (.int .i64 a1_1) := (zg BK273.out 1).trans rfl; have hcz10_2 : w7.cell? ⟨gb273, 2, none⟩ = some (.string a1_2) := (zg BK273.out 2).trans rfl; have hfz10_0 := zf BK273.out 0; have hfz10_1 := zf BK273.out 1; have hfz10_2 := zf BK273.out 2))
 go_ret
 exact zH14
end Go.Proofs.Ytjibigpdbpipcaa.R
