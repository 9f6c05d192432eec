-- squeezed
-- made by pp.py (wip/tools) out of the translation; Lean checks it
import Derived.Laws.Cover3
import Derived.Test.YtojncbpeeboooaaV0
import Derived.Test.YtojncbpeeboooaaV1
import Derived.Test.YtojncbpeeboooaaV2
namespace Go.Proofs.Ytojncbpeeboooaa.V
open Go.RowKit Go.Proofs.YtojncbpeeboooaaW.PrintWords Go.Proofs.YtojncbpeeboooaaW.PrintLast Go.Proofs.YtojncbpeeboooaaW.PrintMore
attribute [local go_sem] max2_int min2_int max_two min_two max_three min_three max_four min_four   -- for this text's walks alone
set_option linter.unusedVariables false
set_option linter.unusedSimpArgs false


/-! ### impl_SourcesOK: function 26 -/
mutual
def impl_SourcesOK.j0 : Nat → List (S58) → Bool → Option (Bool)
 | 0, _, _ => none
 | k + 1, x0, x15 => if x15 = true then (some false) else (impl_SourcesOK.l0 k (([] : List ByteArray)) x0 (x0.length : Int) 0)
def impl_SourcesOK.l0 : Nat → List ByteArray → List (S58) → Int → Int → Option (Bool)
 | 0, _, _, _, _ => none
 | k + 1, x5, x17, x18, x19 => if x19 < x18 then (if 0 ≤ x19 then (if x19 < (x17.length : Int) then ((impl_NameOK.f k ((rd_T58 x17 x19).f0)).bind fun t135 => (if t135 = true then ((impl_within.f ((rd_T58 x17 x19).f1) 0 1000000).bind fun t136 => (if t136 = true then ((impl_areStocked.f k ((rd_T58 x17 x19).f2) 12 0).bind fun t137 => (if t137 = true then (if x5.length < 8796093022208 then (impl_SourcesOK.l0 k (x5 ++ [(rd_T58 x17 x19).f0]) x17 x18 (wrap64 (x19 + 1))) else (none)) else (some false))) else (some false))) else (some false))) else (none)) else (none)) else ((impl_hasTwice_string.f k x5).bind fun t132 => (some (!t132)))
end
def impl_SourcesOK.f (k : Nat) (l0 : List (S58)) (l1 : List (S124)) : Option (Bool) := if (l0.length : Int) > 6 then (impl_SourcesOK.j0 k l0 true) else ((impl_areStocked.f k l1 5 1).bind fun t128 => (impl_SourcesOK.j0 k l0 (!t128)))
theorem impl_SourcesOK.mono_l : ∀ k, (∀ y0 y1, LeO (impl_SourcesOK.j0 k y0 y1) (impl_SourcesOK.j0 (k + 1) y0 y1)) ∧ (∀ y0 y1 y2 y3, LeO (impl_SourcesOK.l0 k y0 y1 y2 y3) (impl_SourcesOK.l0 (k + 1) y0 y1 y2 y3))
 | 0 => ⟨fun _ _ r h => by simp [impl_SourcesOK.j0] at h, fun _ _ _ _ r h => by simp [impl_SourcesOK.l0] at h⟩
 | k + 1 => by
  obtain ⟨ih0, ih1⟩ := impl_SourcesOK.mono_l k
  refine ⟨?_, ?_⟩
  ·intro y0 y1
   unfold impl_SourcesOK.j0
   repeat' first
   | (with_reducible exact ih0 _ _)
   | (with_reducible exact ih1 _ _ _ _)
   | (with_reducible exact impl_NameOK.mono _ _)
   | (with_reducible exact impl_areStocked.mono _ _ _ _)
   | (with_reducible exact impl_hasTwice_string.mono _ _)
   | (with_reducible exact LeO.refl _)
   | (with_reducible exact LeO.none _)
   | (with_reducible refine LeO.ite ?_ ?_)
   | (with_reducible refine LeO.bind ?_ (fun _ => ?_))
   | exact ih0 _ _
   | exact ih1 _ _ _ _
   | exact impl_NameOK.mono _ _
   | exact impl_areStocked.mono _ _ _ _
   | exact impl_hasTwice_string.mono _ _
   | exact LeO.none _
   | refine LeO.ite ?_ ?_
   | refine LeO.bind ?_ (fun _ => ?_)
  ·intro y0 y1 y2 y3
   unfold impl_SourcesOK.l0
   repeat' first
   | (with_reducible exact ih0 _ _)
   | (with_reducible exact ih1 _ _ _ _)
   | (with_reducible exact impl_NameOK.mono _ _)
   | (with_reducible exact impl_areStocked.mono _ _ _ _)
   | (with_reducible exact impl_hasTwice_string.mono _ _)
   | (with_reducible exact LeO.refl _)
   | (with_reducible exact LeO.none _)
   | (with_reducible refine LeO.ite ?_ ?_)
   | (with_reducible refine LeO.bind ?_ (fun _ => ?_))
   | exact ih0 _ _
   | exact ih1 _ _ _ _
   | exact impl_NameOK.mono _ _
   | exact impl_areStocked.mono _ _ _ _
   | exact impl_hasTwice_string.mono _ _
   | exact LeO.none _
   | refine LeO.ite ?_ ?_
   | refine LeO.bind ?_ (fun _ => ?_)
theorem impl_SourcesOK.mono : ∀ a0 a1 k, LeO (impl_SourcesOK.f k a0 a1) (impl_SourcesOK.f (k + 1) a0 a1) := by
 intro a0 a1 k
 obtain ⟨ih0, ih1⟩ := impl_SourcesOK.mono_l k
 unfold impl_SourcesOK.f
 repeat' first
   | (with_reducible exact ih0 _ _)
   | (with_reducible exact ih1 _ _ _ _)
   | (with_reducible exact impl_NameOK.mono _ _)
   | (with_reducible exact impl_areStocked.mono _ _ _ _)
   | (with_reducible exact impl_hasTwice_string.mono _ _)
   | (with_reducible exact LeO.refl _)
   | (with_reducible exact LeO.none _)
   | (with_reducible refine LeO.ite ?_ ?_)
   | (with_reducible refine LeO.bind ?_ (fun _ => ?_))
   | exact ih0 _ _
   | exact ih1 _ _ _ _
   | exact impl_NameOK.mono _ _
   | exact impl_areStocked.mono _ _ _ _
   | exact impl_hasTwice_string.mono _ _
   | exact LeO.none _
   | refine LeO.ite ?_ ?_
   | refine LeO.bind ?_ (fun _ => ?_)
set_option maxHeartbeats 64000000 in
set_option maxRecDepth 100000 in
theorem impl_SourcesOK.calls (k : Nat) (A0 : Option Addr) (c0 : Nat) (l0 : List (S58)) (A1 : Option Addr) (c1 : Nat) (l1 : List (S124)) (r : Bool) (w : World) (hr0 : Kd.C k58 w A0 l0.length l0) (hc0 : l0.length ≤ c0) (hr1 : Kd.C k124 w A1 l1.length l1) (hc1 : l1.length ≤ c1) (h : impl_SourcesOK.f k l0 l1 = some r) :
  Calls Try.prog 26 #[.slice A0 l0.length c0, .slice A1 l1.length c1] w fun e w' => e = .returned (.bool r) ∧ Below w.heap.size w w' := by
 have hu58 := Try.underlying58
 obtain ⟨HR0, HC0, HR1, HC1, HB⟩ := zD5 hr0 hc0 hr1 hc1 (Below.refl w.heap.size w)
 clear hr0 hc0 hr1 hc1
 have H : (if (l0.length : Int) > 6 then (impl_SourcesOK.j0 k l0 true) else ((impl_areStocked.f k l1 5 1).bind fun t128 => (impl_SourcesOK.j0 k l0 (!t128)))) = some r := h
 clear h
 have HC3 := za H
 clear H
 go_enter Try.func26, Try.ntmps26
 go_upto_region 1 with (fail)
 go_cut [15] (fun v15 wc => ∃ (kq : Nat) (x15_2 : Bool), v15 = .bool x15_2 ∧ Aside0 (impl_SourcesOK.j0 kq l0 x15_2 = some r) ∧ Aside0 (kq ≤ k) ∧ Aside0 (Below w.heap.size w wc))
 case first =>
  have H := HC3.out
  clear HC3
  by_cases c4 : (l0.length : Int) > 6
  ·rw [if_pos c4] at H
   have c4b0 : decide (6 < (l0.length : Int)) = true := decide_eq_true c4
   have c4b1 : decide (6 < l0.length) = true := decide_eq_true (by omega)
   clear c4
   (first | rw [c4b0] | (simp only [i64_w, i32_w]; rw [c4b0]) | skip)
   have H' := za H
   clear H
   go_wp2
   go_meet
   case rel => exact ⟨_, (true), zG105, H', ⟨zH125⟩, ⟨zH104⟩⟩
  rw [if_neg c4] at H
  have c4b0 : decide (6 < (l0.length : Int)) = false := decide_eq_false c4
  have c4b1 : decide (6 < l0.length) = false := decide_eq_false (by omega)
  clear c4
  (first | rw [c4b0] | (simp only [i64_w, i32_w]; rw [c4b0]) | skip)
  replace H := Option.bind_eq_some_iff.mp H
  obtain ⟨t128, A50, H⟩ := H
  replace H : (impl_SourcesOK.j0 k l0 (!t128)) = some r := H
  have A5 := za A50
  clear A50
  have H' := za H
  clear H
  go_wp2_with (first | (go_at_call 86; (with_reducible refine (impl_areStocked.calls k _ _ l1 5 1 t128 _ ?side1 ?side2 A5.out).mono ?_); (case side1 => exact zH76); (case side2 => exact zH129); rintro e w6 ⟨rfl, hb⟩; replace HB := za (zq zG85 hb); (try clear hb)))
  go_meet
  case rel => exact ⟨_, (!t128), zG105, H', ⟨zH125⟩, ⟨zH104⟩⟩
 case rest =>
  clear HC3
  try clear c1
  try clear c4
  try clear c4b0
  try clear c4b1
  obtain ⟨kq, x15_2, rfl, HA, HJ2, HB⟩ := hcut
  cases kq with
  | zero => exact absurd HA.out (by simp [impl_SourcesOK.j0])
  | succ kj2 =>
   have H := HA.out
   clear HA
   simp only [impl_SourcesOK.j0] at H
   by_cases c7 : x15_2 = true
   ·subst c7
    have H1 : (some false) = some r := by rw [if_pos rfl] at H; exact H
    clear H
    have H := H1
    clear H1
    obtain rfl := Option.some.inj H
    go_wp2
    go_ret
    exact zH43
   replace c7 := Bool.eq_false_iff.mpr c7
   subst c7
   have H1 : (impl_SourcesOK.l0 kj2 (([] : List ByteArray)) l0 (l0.length : Int) 0) = some r := by rw [if_neg (show ¬ (false = true) by decide)] at H; exact H
   clear H
   have H := H1
   clear H1
   obtain ⟨y129, hy129⟩ : ∃ y_ : List ByteArray, y_ = (([] : List ByteArray)) := ⟨_, rfl⟩
   replace H : (impl_SourcesOK.l0 kj2 y129 l0 (l0.length : Int) 0) = some r := by first | (rw [hy129]; with_reducible exact H) | (have H2_ := (Option.bind_some _ _).symm.trans H; rw [hy129]; with_reducible exact H2_) | (have H2_ := (Option.bind_some _ _).symm.trans H; with_reducible exact H2_) | with_reducible exact H | (rw [hy129]; exact H) | exact H
   have Ny129 := za hy129
   clear hy129
   have H' := za H
   clear H
   go_wp2_with (first | ((with_reducible refine gate_dst (N := 16) rfl ?_); refine zbm Kd.string _ 9 ?hg (N := 16) ?hd (xs := ([] : List ByteArray)) (inner := []) (ok := fun _ => True) (okp := fun _ => True) ?hr ?hp (fun _ hk => hk) trivial (Below.refl _ _) (Nat.le_refl _) (by simp) ?_; (case hd => rfl); (case hg => rfl); (case hr => exact zH124); (case hp => exact (Reps.none _ _)); intro v130 w8 ho9 hb hg_ hnew_; clear hg_ hnew_; (first | rw [← Ny129.out] at ho9 | (simp only [Int.reduceToNat] at ho9; rw [← Ny129.out] at ho9)); have n_ := zA_ (za (zah ho9 (zp zG85))) (za (zq zG85 hb)); clear HB; obtain ⟨HO131, HB⟩ := n_; clear hb ho9))
   go_loopg [5, 19] kj2 (fun kq v5 v19 w' => ∃ (x5_2 : List ByteArray) (x19_2 : Int), v19 = .int .i64 x19_2 ∧ Aside0 (impl_SourcesOK.l0 kq x5_2 l0 (l0.length : Int) x19_2 = some r) ∧ Aside0 (kq ≤ kj2) ∧ Aside0 (Kd.R Kd.string 9 w' w.heap.size (fun _ => True) v5 x5_2) ∧ Aside0 (Below w.heap.size w w'))
   case atStart => exact ⟨(y129), (0), zG105, H', ⟨Nat.le_refl _⟩, ⟨by (with_reducible repeat (first | apply zl | apply zm | apply zn)); exact HO131.out⟩, ⟨zH104⟩⟩
   case round =>
    clear H'
    try clear c1
    try clear c4
    try clear c4b0
    try clear c4b1
    try clear c7
    obtain ⟨x5_2, x19_2, rfl, HA, HK2, HO_5, HB⟩ := hrel
    cases gk with
    | zero => exact absurd HA.out (by simp [impl_SourcesOK.l0])
    | succ k2 =>
     have H := HA.out
     clear HA
     simp only [impl_SourcesOK.l0] at H
     by_cases c10 : x19_2 < (l0.length : Int)
     rotate_left
     ·rw [if_neg c10] at H
      have c10b0 := decide_eq_false c10
      clear c10
      replace H := Option.bind_eq_some_iff.mp H
      obtain ⟨t132, A320, H⟩ := H
      replace H : (some (!t132)) = some r := H
      have A32 := za A320
      clear A320
      obtain rfl := Option.some.inj H
      obtain ⟨Ao33, co33, eo33⟩ := zaf HO_5.out
      subst eo33
      go_wp2_with (first | ((with_reducible refine gate_callee (f := 89) rfl ?_); refine goesL_ (some 46) rfl rfl Try.func89 zG106 rfl #[.slice Ao33 x5_2.length co33] rfl zG80 ?_; (with_reducible refine (impl_hasTwice_string.calls k2 _ _ x5_2 t132 _ ?side1 ?side2 A32.out).mono ?_); (case side1 => repeat (first | exact (Kd.R_reads' HO_5.out).2.2 | (with_reducible refine zu ?_ _) | (with_reducible refine zv ?_ _) | (with_reducible refine zy ?_))); (case side2 => exact (Kd.R_reads' HO_5.out).2.1); rintro e w' ⟨rfl, ⟨nd, rfl⟩⟩; refine ⟨_, rfl, ?_⟩))
      go_ret
      exact zH43

     rw [if_pos c10] at H
     have c10b0 := decide_eq_true c10
     clear c10
     by_cases c11 : 0 ≤ x19_2
     rotate_left
     ·rw [if_neg c11] at H
      exact absurd H (by simp)
     rw [if_pos c11] at H
     have c11b0 := decide_eq_true c11
     clear c11
     by_cases c12 : x19_2 < (l0.length : Int)
     rotate_left
     ·rw [if_neg c12] at H
      exact absurd H (by simp)
     rw [if_pos c12] at H
     have c12b0 := decide_eq_true c12
     clear c12
     replace H := Option.bind_eq_some_iff.mp H
     obtain ⟨t135, A130, H⟩ := H
     replace H : (if t135 = true then ((impl_within.f ((rd_T58 l0 x19_2).f1) 0 1000000).bind fun t136 => (if t136 = true then ((impl_areStocked.f k2 ((rd_T58 l0 x19_2).f2) 12 0).bind fun t137 => (if t137 = true then (if x5_2.length < 8796093022208 then (impl_SourcesOK.l0 k2 (x5_2 ++ [(rd_T58 l0 x19_2).f0]) l0 (l0.length : Int) (wrap64 (x19_2 + 1))) else (none)) else (some false))) else (some false))) else (some false)) = some r := H
     have A13 := za A130
     clear A130
     by_cases c14 : t135 = true
     rotate_left
     ·replace c14 := Bool.eq_false_iff.mpr c14
      subst c14
      have H1 : (some false) = some r := by rw [if_neg (show ¬ (false = true) by decide)] at H; exact H
      clear H
      have H := H1
      clear H1
      obtain rfl := Option.some.inj H
      have p133 : 0 ≤ (x19_2 : Int) := zO
      have q133 : x19_2 < (l0.length : Int) := zO
      obtain ⟨ad133, A133_2, c133_2, e133, hx133_0, hx133_1, hx133_2, hl133_2, hi133_2⟩ := at_T58 HR0.out x19_2 p133 q133
      cases e133
      replace hx133_0 := (HB.out.cell (zj w _ hx133_0)).trans hx133_0
      replace hx133_1 := (HB.out.cell (zj w _ hx133_1)).trans hx133_1
      replace hx133_2 := (HB.out.cell (zj w _ hx133_2)).trans hx133_2
      obtain ⟨HR133_2, HC133_2⟩ := zD2 hi133_2 hl133_2
      clear hi133_2 hl133_2
      replace p133 := eq_true p133
      replace q133 := eq_true q133
      go_wp2_with (first | ((with_reducible refine gate_dst (N := 7) rfl ?_); refine box_event ?hg (N := 7) ?hd (cs := #[.string (⟨#[]⟩ : ByteArray), .int .i64 0, .slice none 0 0]) (t := 58) ?hr ?_; (case hd => rfl); (case hg => rfl); (case hr => exact zH124); intro gb134 hg w30 hbox hb; have n_ := zA_ (za (zt zK245 hb)) (zA_ (za (zq zG85 hb)) (zA_ (za (hbox)) (zA_ (zN1 w.heap.size hg (zp zG85)) (zN1 w.heap.size hg (zp zG85))))); clear HO_5 HB; obtain ⟨HO_5, HB, BK134, GW134, GE134⟩ := n_; clear hb hbox hg; obtain ⟨hcz31_0, hcz31_1, hcz31_2, hfz31_0, hfz31_1, hfz31_2⟩ := zB3 BK134.out) | ((with_reducible refine gate_callee (f := 87) rfl ?_); refine goesL_ (some 25) rfl rfl Try.func87 zG106 rfl #[.string ((rd_T58 l0 x19_2).f0)] rfl zG80 ?_; (with_reducible refine (impl_NameOK.calls k2 ((rd_T58 l0 x19_2).f0) false _ A13.out).mono ?_); rintro e w' ⟨rfl, ⟨nd, rfl⟩⟩; refine ⟨_, rfl, ?_⟩))
      go_ret
      exact zH35
     subst c14
     have H1 : ((impl_within.f ((rd_T58 l0 x19_2).f1) 0 1000000).bind fun t136 => (if t136 = true then ((impl_areStocked.f k2 ((rd_T58 l0 x19_2).f2) 12 0).bind fun t137 => (if t137 = true then (if x5_2.length < 8796093022208 then (impl_SourcesOK.l0 k2 (x5_2 ++ [(rd_T58 l0 x19_2).f0]) l0 (l0.length : Int) (wrap64 (x19_2 + 1))) else (none)) else (some false))) else (some false))) = some r := by rw [if_pos rfl] at H; exact H
     clear H
     have H := H1
     clear H1
     replace H := Option.bind_eq_some_iff.mp H
     obtain ⟨t136, A150, H⟩ := H
     replace H : (if t136 = true then ((impl_areStocked.f k2 ((rd_T58 l0 x19_2).f2) 12 0).bind fun t137 => (if t137 = true then (if x5_2.length < 8796093022208 then (impl_SourcesOK.l0 k2 (x5_2 ++ [(rd_T58 l0 x19_2).f0]) l0 (l0.length : Int) (wrap64 (x19_2 + 1))) else (none)) else (some false))) else (some false)) = some r := H
     have A15 := za A150
     clear A150
     by_cases c16 : t136 = true
     rotate_left
     ·replace c16 := Bool.eq_false_iff.mpr c16
      subst c16
      have H1 : (some false) = some r := by rw [if_neg (show ¬ (false = true) by decide)] at H; exact H
      clear H
      have H := H1
      clear H1
      obtain rfl := Option.some.inj H
      have p133 : 0 ≤ (x19_2 : Int) := zO
      have q133 : x19_2 < (l0.length : Int) := zO
      obtain ⟨ad133, A133_2, c133_2, e133, hx133_0, hx133_1, hx133_2, hl133_2, hi133_2⟩ := at_T58 HR0.out x19_2 p133 q133
      cases e133
      replace hx133_0 := (HB.out.cell (zj w _ hx133_0)).trans hx133_0
      replace hx133_1 := (HB.out.cell (zj w _ hx133_1)).trans hx133_1
      replace hx133_2 := (HB.out.cell (zj w _ hx133_2)).trans hx133_2
      obtain ⟨HR133_2, HC133_2⟩ := zD2 hi133_2 hl133_2
      clear hi133_2 hl133_2
      replace p133 := eq_true p133
      replace q133 := eq_true q133
      go_wp2_with (first | ((with_reducible refine gate_dst (N := 7) rfl ?_); refine box_event ?hg (N := 7) ?hd (cs := #[.string (⟨#[]⟩ : ByteArray), .int .i64 0, .slice none 0 0]) (t := 58) ?hr ?_; (case hd => rfl); (case hg => rfl); (case hr => exact zH124); intro gb134 hg w28 hbox hb; have n_ := zA_ (za (zt zK245 hb)) (zA_ (za (zq zG85 hb)) (zA_ (za (hbox)) (zA_ (zN1 w.heap.size hg (zp zG85)) (zN1 w.heap.size hg (zp zG85))))); clear HO_5 HB; obtain ⟨HO_5, HB, BK134, GW134, GE134⟩ := n_; clear hb hbox hg; obtain ⟨hcz29_0, hcz29_1, hcz29_2, hfz29_0, hfz29_1, hfz29_2⟩ := zB3 BK134.out) | ((with_reducible refine gate_callee (f := 87) rfl ?_); refine goesL_ (some 25) rfl rfl Try.func87 zG106 rfl #[.string ((rd_T58 l0 x19_2).f0)] rfl zG80 ?_; (with_reducible refine (impl_NameOK.calls k2 ((rd_T58 l0 x19_2).f0) true _ A13.out).mono ?_); rintro e w' ⟨rfl, ⟨nd, rfl⟩⟩; refine ⟨_, rfl, ?_⟩) | (go_at_call 88; (with_reducible refine (impl_within.calls ((rd_T58 l0 x19_2).f1) 0 1000000 false _ A15.out).mono ?_); rintro e w' ⟨rfl, ⟨nd, rfl⟩⟩))
      go_ret
      exact zH35
     subst c16
     have H1 : ((impl_areStocked.f k2 ((rd_T58 l0 x19_2).f2) 12 0).bind fun t137 => (if t137 = true then (if x5_2.length < 8796093022208 then (impl_SourcesOK.l0 k2 (x5_2 ++ [(rd_T58 l0 x19_2).f0]) l0 (l0.length : Int) (wrap64 (x19_2 + 1))) else (none)) else (some false))) = some r := by rw [if_pos rfl] at H; exact H
     clear H
     have H := H1
     clear H1
     replace H := Option.bind_eq_some_iff.mp H
     obtain ⟨t137, A170, H⟩ := H
     replace H : (if t137 = true then (if x5_2.length < 8796093022208 then (impl_SourcesOK.l0 k2 (x5_2 ++ [(rd_T58 l0 x19_2).f0]) l0 (l0.length : Int) (wrap64 (x19_2 + 1))) else (none)) else (some false)) = some r := H
     have A17 := za A170
     clear A170
     by_cases c18 : t137 = true
     rotate_left
     ·replace c18 := Bool.eq_false_iff.mpr c18
      subst c18
      have H1 : (some false) = some r := by rw [if_neg (show ¬ (false = true) by decide)] at H; exact H
      clear H
      have H := H1
      clear H1
      obtain rfl := Option.some.inj H
      have p133 : 0 ≤ (x19_2 : Int) := zO
      have q133 : x19_2 < (l0.length : Int) := zO
      obtain ⟨ad133, A133_2, c133_2, e133, hx133_0, hx133_1, hx133_2, hl133_2, hi133_2⟩ := at_T58 HR0.out x19_2 p133 q133
      cases e133
      replace hx133_0 := (HB.out.cell (zj w _ hx133_0)).trans hx133_0
      replace hx133_1 := (HB.out.cell (zj w _ hx133_1)).trans hx133_1
      replace hx133_2 := (HB.out.cell (zj w _ hx133_2)).trans hx133_2
      obtain ⟨HR133_2, HC133_2⟩ := zD2 hi133_2 hl133_2
      clear hi133_2 hl133_2
      replace p133 := eq_true p133
      replace q133 := eq_true q133
      go_wp2_with (first | ((with_reducible refine gate_dst (N := 7) rfl ?_); refine box_event ?hg (N := 7) ?hd (cs := #[.string (⟨#[]⟩ : ByteArray), .int .i64 0, .slice none 0 0]) (t := 58) ?hr ?_; (case hd => rfl); (case hg => rfl); (case hr => exact zH124); intro gb134 hg w25 hbox hb; have n_ := zA_ (za (zt zK245 hb)) (zA_ (za (zq zG85 hb)) (zA_ (za (hbox)) (zA_ (zN1 w.heap.size hg (zp zG85)) (zN1 w.heap.size hg (zp zG85))))); clear HO_5 HB; obtain ⟨HO_5, HB, BK134, GW134, GE134⟩ := n_; clear hb hbox hg; obtain ⟨hcz26_0, hcz26_1, hcz26_2, hfz26_0, hfz26_1, hfz26_2⟩ := zB3 BK134.out) | ((with_reducible refine gate_callee (f := 87) rfl ?_); refine goesL_ (some 25) rfl rfl Try.func87 zG106 rfl #[.string ((rd_T58 l0 x19_2).f0)] rfl zG80 ?_; (with_reducible refine (impl_NameOK.calls k2 ((rd_T58 l0 x19_2).f0) true _ A13.out).mono ?_); rintro e w' ⟨rfl, ⟨nd, rfl⟩⟩; refine ⟨_, rfl, ?_⟩) | (go_at_call 88; (with_reducible refine (impl_within.calls ((rd_T58 l0 x19_2).f1) 0 1000000 true _ A15.out).mono ?_); rintro e w' ⟨rfl, ⟨nd, rfl⟩⟩) | (go_at_call 86; (with_reducible refine (impl_areStocked.calls k2 _ _ ((rd_T58 l0 x19_2).f2) 12 0 false _ ?side1 ?side2 A17.out).mono ?_); (case side1 => exact zH56); (case side2 => exact HC133_2.out); rintro e w27 ⟨rfl, hb⟩; have n_ := zA_ (za (zt zK149 hb)) (zA_ (za (zo (g := gb134) (o := .cells #[.string ((rd_T58 l0 x19_2).f0), .int .i64 ((rd_T58 l0 x19_2).f1), .slice A133_2 ((rd_T58 l0 x19_2).f2).length c133_2] 58 (0, 0)) zK131 hb)) (za (zq zK192 hb))); clear HO_5 BK134 HB; obtain ⟨HO_5, BK134, HB⟩ := n_; (try clear hb); (try clear hk)))
      go_ret
      exact zH35
     subst c18
     have H1 : (if x5_2.length < 8796093022208 then (impl_SourcesOK.l0 k2 (x5_2 ++ [(rd_T58 l0 x19_2).f0]) l0 (l0.length : Int) (wrap64 (x19_2 + 1))) else (none)) = some r := by rw [if_pos rfl] at H; exact H
     clear H
     have H := H1
     clear H1
     by_cases c19 : x5_2.length < 8796093022208
     rotate_left
     ·rw [if_neg c19] at H
      exact absurd H (by simp)
     rw [if_pos c19] at H
     have LMc19 := za c19
     clear c19
     obtain ⟨y138, hy138⟩ : ∃ y_ : List ByteArray, y_ = (x5_2 ++ [(rd_T58 l0 x19_2).f0]) := ⟨_, rfl⟩
     replace H : (impl_SourcesOK.l0 k2 y138 l0 (l0.length : Int) (wrap64 (x19_2 + 1))) = some r := by first | (rw [hy138]; with_reducible exact H) | (have H2_ := (Option.bind_some _ _).symm.trans H; rw [hy138]; with_reducible exact H2_) | (have H2_ := (Option.bind_some _ _).symm.trans H; with_reducible exact H2_) | with_reducible exact H | (rw [hy138]; exact H) | exact H
     have Ny138 := za hy138
     clear hy138
     have H' := za H
     clear H
     have p133 : 0 ≤ (x19_2 : Int) := zO
     have q133 : x19_2 < (l0.length : Int) := zO
     obtain ⟨ad133, A133_2, c133_2, e133, hx133_0, hx133_1, hx133_2, hl133_2, hi133_2⟩ := at_T58 HR0.out x19_2 p133 q133
     cases e133
     replace hx133_0 := (HB.out.cell (zj w _ hx133_0)).trans hx133_0
     replace hx133_1 := (HB.out.cell (zj w _ hx133_1)).trans hx133_1
     replace hx133_2 := (HB.out.cell (zj w _ hx133_2)).trans hx133_2
     obtain ⟨HR133_2, HC133_2⟩ := zD2 hi133_2 hl133_2
     clear hi133_2 hl133_2
     replace p133 := eq_true p133
     replace q133 := eq_true q133
     go_wp2_with (first | ((with_reducible refine gate_dst (N := 7) rfl ?_); refine box_event ?hg (N := 7) ?hd (cs := #[.string (⟨#[]⟩ : ByteArray), .int .i64 0, .slice none 0 0]) (t := 58) ?hr ?_; (case hd => rfl); (case hg => rfl); (case hr => exact zH124); intro gb134 hg w20 hbox hb; have n_ := zA_ (za (zt zK245 hb)) (zA_ (za (zq zG85 hb)) (zA_ (za (hbox)) (zA_ (zN1 w.heap.size hg (zp zG85)) (zN1 w.heap.size hg (zp zG85))))); clear HO_5 HB; obtain ⟨HO_5, HB, BK134, GW134, GE134⟩ := n_; clear hb hbox hg; obtain ⟨hcz21_0, hcz21_1, hcz21_2, hfz21_0, hfz21_1, hfz21_2⟩ := zB3 BK134.out) | ((with_reducible refine gate_callee (f := 87) rfl ?_); refine goesL_ (some 25) rfl rfl Try.func87 zG106 rfl #[.string ((rd_T58 l0 x19_2).f0)] rfl zG80 ?_; (with_reducible refine (impl_NameOK.calls k2 ((rd_T58 l0 x19_2).f0) true _ A13.out).mono ?_); rintro e w' ⟨rfl, ⟨nd, rfl⟩⟩; refine ⟨_, rfl, ?_⟩) | (go_at_call 88; (with_reducible refine (impl_within.calls ((rd_T58 l0 x19_2).f1) 0 1000000 true _ A15.out).mono ?_); rintro e w' ⟨rfl, ⟨nd, rfl⟩⟩) | (go_at_call 86; (with_reducible refine (impl_areStocked.calls k2 _ _ ((rd_T58 l0 x19_2).f2) 12 0 true _ ?side1 ?side2 A17.out).mono ?_); (case side1 => exact zH56); (case side2 => exact HC133_2.out); rintro e w22 ⟨rfl, hb⟩; have n_ := zA_ (za (zt zK149 hb)) (zA_ (za (zo (g := gb134) (o := .cells #[.string ((rd_T58 l0 x19_2).f0), .int .i64 ((rd_T58 l0 x19_2).f1), .slice A133_2 ((rd_T58 l0 x19_2).f2).length c133_2] 58 (0, 0)) zK131 hb)) (za (zq zK192 hb))); clear HO_5 BK134 HB; obtain ⟨HO_5, BK134, HB⟩ := n_; (try clear hb); (try clear hk); obtain ⟨hcz23_0, hcz23_1, hcz23_2, hfz23_0, hfz23_1, hfz23_2⟩ := zB3 BK134.out) | ((with_reducible refine gate_builtin (b := .append) (xs := #[.tmp 39, .tmp 42]) rfl ?_); at_builtin; refine Kd.R_append Kd.string (w0 := w) w.heap.size rfl (.tmp 39) (.tmp 42) 70 9 (.string ⟨#[]⟩) 16 rfl Try.underlying70 info9 rfl zG107 (by omega) u5 x5_2 ((rd_T58 l0 x19_2).f0) [.string ((rd_T58 l0 x19_2).f0)] (fun _ => True) (fun _ => False) rfl rfl ?aP (fun _ hk => hk.elim) ?aF ?aO ?aB ?aS ?aL ?_; (case aP => exact rfl); (case aB => exact zK192); (case aF => exact (fun _ _ => trivial)); (case aO => exact zK245); (case aS => exact (zp zK192)); (case aL => have := LMc19.out; omega); intro v139 w24 ho hb hg hat; rw [← Ny138.out] at ho; have n_ := zA_ (za (zaw (g := gb134) (o := .cells #[.string ((rd_T58 l0 x19_2).f0), .int .i64 ((rd_T58 l0 x19_2).f1), .slice A133_2 ((rd_T58 l0 x19_2).f2).length c133_2] 58 (0, 0)) (by (with_reducible repeat (first | refine zc ?_ _ | refine ze ?_ | refine zb ?_ _)); exact BK134.out) hg (zap HO_5.out BK134.out zG107))) (zA_ (za (hb)) (za (ho))); clear BK134 HB HO_5; obtain ⟨BK134, HB, HO140⟩ := n_; clear ho hb hg hat))
     go_roundg k2
     case measure => have := HJ2.out; have := HK2.out; omega
     case rel => exact ⟨(y138), (wrap64 (x19_2 + 1)), zG105, H', ⟨by have := HJ2.out; have := HK2.out; omega⟩, ⟨by (with_reducible repeat (first | apply zl | apply zm | apply zn)); exact HO140.out⟩, ⟨zH82⟩⟩
/-! ### impl_Source: function 78 -/
def impl_Source.f (l0 : List (S58)) : Option (Bool) := some (decide ((l0.length : Int) ≤ 4096))
set_option maxHeartbeats 64000000 in
set_option maxRecDepth 100000 in
theorem impl_Source.calls (A0 : Option Addr) (c0 : Nat) (l0 : List (S58)) (r : Bool) (w : World) (hr0 : Kd.C k58 w A0 l0.length l0) (hc0 : l0.length ≤ c0) (h : impl_Source.f l0 = some r) :
  Calls Try.prog 78 #[.slice A0 l0.length c0] w fun e w' => e = .returned (.bool r) ∧ Drawn0 w w' := by
 obtain ⟨HR0, HC0⟩ := zD2 hr0 hc0
 clear hr0 hc0
 have H : (some (decide ((l0.length : Int) ≤ 4096))) = some r := h
 clear h
 obtain rfl := Option.some.inj H
 go_enter Try.func78, Try.ntmps78
 go_wp2
 go_ret
 exact zH91

/-! ### impl_Stocked_79: function 79 -/
def impl_Stocked_79.f (l0 : List (S124)) : Option (Bool) := some (decide ((l0.length : Int) ≤ 4096))
set_option maxHeartbeats 64000000 in
set_option maxRecDepth 100000 in
theorem impl_Stocked_79.calls (A0 : Option Addr) (c0 : Nat) (l0 : List (S124)) (r : Bool) (w : World) (hr0 : Kd.C k124 w A0 l0.length l0) (hc0 : l0.length ≤ c0) (h : impl_Stocked_79.f l0 = some r) :
  Calls Try.prog 79 #[.slice A0 l0.length c0] w fun e w' => e = .returned (.bool r) ∧ Drawn0 w w' := by
 obtain ⟨HR0, HC0⟩ := zD2 hr0 hc0
 clear hr0 hc0
 have H : (some (decide ((l0.length : Int) ≤ 4096))) = some r := h
 clear h
 obtain rfl := Option.some.inj H
 go_enter Try.func79, Try.ntmps79
 go_wp2
 go_ret
 exact zH91

/-! ### impl_Source_gives_1: function 126 -/
def impl_Source_gives_1.f (a0_0 : ByteArray) (a0_1 : Int) (a1_0 : ByteArray) (a1_1 : Int) : Option (Bool) := if a0_0.toList = a1_0.toList then (some (decide (a0_1 ≥ a1_1))) else (some false)
set_option maxHeartbeats 64000000 in
set_option maxRecDepth 100000 in
theorem impl_Source_gives_1.calls (a0_0 : ByteArray) (a0_1 : Int) (gc1_0 : Nat) (a1_0 : ByteArray) (a1_1 : Int) (r : Bool) (w : World) (hk1_0 : w.heap[gc1_0]? = some (.cells #[.string a1_0, .int .i64 a1_1] 124 (0, 0))) (h : impl_Source_gives_1.f a0_0 a0_1 a1_0 a1_1 = some r) :
  Calls Try.prog 126 #[.agg #[.string a0_0, .int .i64 a0_1], .pointer (some ⟨gc1_0, 0, none⟩)] w fun e w' => e = .returned (.bool r) ∧ Below w.heap.size w w' := by
 have hu124 := Try.underlying124
 obtain ⟨BK1, HB⟩ := zD2 hk1_0 (Below.refl w.heap.size w)
 clear hk1_0
 have H : (if a0_0.toList = a1_0.toList then (some (decide (a0_1 ≥ a1_1))) else (some false)) = some r := h
 clear h
 by_cases c3 : a0_0.toList = a1_0.toList
 rotate_left
 ·rw [if_neg c3] at H
  have c3b0 : (a0_0.toList == a1_0.toList) = false := beq_eq_false_iff_ne.mpr c3
  have c3b1 : (a0_0.toList != a1_0.toList) = true := bne_iff_ne.mpr c3
  obtain rfl := Option.some.inj H
  go_enter Try.func126, Try.ntmps126
  go_wp2_with (first | ((with_reducible refine gate_dst (N := 2) rfl ?_); refine box_event ?hg (N := 2) ?hd (cs := #[.string a0_0, .int .i64 a0_1]) (t := 124) ?hr ?_; (case hd => rfl); (case hg => rfl); (case hr => exact zH124); intro gb141 hg w8 hbox hb; have n_ := zA_ (za (zo (g := gc1_0) (o := .cells #[.string a1_0, .int .i64 a1_1] 124 (0, 0)) zG95 hb)) (zA_ (za (zq zK206 hb)) (zA_ (za (hbox)) (zA_ (zN1 w.heap.size hg (zp zK206)) (zA_ (zN1 w.heap.size hg (zp zK206)) (zN2 hg (zz (g := gc1_0) (o := .cells #[.string a1_0, .int .i64 a1_1] 124 (0, 0)) zG95)))))); clear BK1 HB; obtain ⟨BK1, HB, BK141, GW141, GE141, NB1_141, NB141_1⟩ := n_; clear hb hbox hg; have hnb9 := NB141_1.out; have hnc9 := NB1_141.out; obtain ⟨hcz10_0, hcz10_1, hfz10_0, hfz10_1⟩ := zB2 BK141.out; obtain ⟨hcz11_0, hcz11_1, hfz11_0, hfz11_1⟩ := zB2 BK1.out))
  go_ret
  exact zH27

 rw [if_pos c3] at H
 have c3b0 : (a0_0.toList == a1_0.toList) = true := beq_iff_eq.mpr c3
 have c3b1 : (a0_0.toList != a1_0.toList) = false := bne_eq_false_iff_eq.mpr c3
 clear c3
 obtain rfl := Option.some.inj H
 go_enter Try.func126, Try.ntmps126
 go_wp2_with (first | ((with_reducible refine gate_dst (N := 2) rfl ?_); refine box_event ?hg (N := 2) ?hd (cs := #[.string a0_0, .int .i64 a0_1]) (t := 124) ?hr ?_; (case hd => rfl); (case hg => rfl); (case hr => exact zH124); intro gb141 hg w4 hbox hb; have n_ := zA_ (za (zo (g := gc1_0) (o := .cells #[.string a1_0, .int .i64 a1_1] 124 (0, 0)) zG95 hb)) (zA_ (za (zq zK206 hb)) (zA_ (za (hbox)) (zA_ (zN1 w.heap.size hg (zp zK206)) (zA_ (zN1 w.heap.size hg (zp zK206)) (zN2 hg (zz (g := gc1_0) (o := .cells #[.string a1_0, .int .i64 a1_1] 124 (0, 0)) zG95)))))); clear BK1 HB; obtain ⟨BK1, HB, BK141, GW141, GE141, NB1_141, NB141_1⟩ := n_; clear hb hbox hg; have hnb5 := NB141_1.out; have hnc5 := NB1_141.out; obtain ⟨hcz6_0, hcz6_1, hfz6_0, hfz6_1⟩ := zB2 BK141.out; obtain ⟨hcz7_0, hcz7_1, hfz7_0, hfz7_1⟩ := zB2 BK1.out))
 go_ret
 exact zH27
/-! ### slices_IndexFunc_at_impl_Source_gives_1: function 500001 -/
def slices_IndexFunc_at_impl_Source_gives_1.l0 : Nat → List (S124) → Int → Int → ByteArray → Int → Option (Int)
 | 0, _, _, _, _, _ => none
 | k + 1, x0, x7, x8, x29000, x29001 => if x8 < x7 then (if 0 ≤ x8 then (if x8 < (x0.length : Int) then ((impl_Source_gives_1.f ((rd_T124 x0 x8).f0) ((rd_T124 x0 x8).f1) x29000 x29001).bind fun t143 => (if t143 = true then (some x8) else (slices_IndexFunc_at_impl_Source_gives_1.l0 k x0 x7 (wrap64 (x8 + 1)) x29000 x29001))) else (none)) else (none)) else (some (-1))
def slices_IndexFunc_at_impl_Source_gives_1.f (k : Nat) (l0 : List (S124)) (a1_0 : ByteArray) (a1_1 : Int) : Option (Int) := slices_IndexFunc_at_impl_Source_gives_1.l0 k l0 (l0.length : Int) 0 a1_0 a1_1
theorem slices_IndexFunc_at_impl_Source_gives_1.mono_l : ∀ k, (∀ y0 y1 y2 y3 y4, LeO (slices_IndexFunc_at_impl_Source_gives_1.l0 k y0 y1 y2 y3 y4) (slices_IndexFunc_at_impl_Source_gives_1.l0 (k + 1) y0 y1 y2 y3 y4))
 | 0 => fun _ _ _ _ _ r h => by simp [slices_IndexFunc_at_impl_Source_gives_1.l0] at h
 | k + 1 => by
  have ih0 := slices_IndexFunc_at_impl_Source_gives_1.mono_l k
  ·intro y0 y1 y2 y3 y4
   unfold slices_IndexFunc_at_impl_Source_gives_1.l0
   repeat' first
   | (with_reducible exact ih0 _ _ _ _ _)
   | (with_reducible exact LeO.refl _)
   | (with_reducible exact LeO.none _)
   | (with_reducible refine LeO.ite ?_ ?_)
   | (with_reducible refine LeO.bind ?_ (fun _ => ?_))
   | exact ih0 _ _ _ _ _
   | exact LeO.none _
   | refine LeO.ite ?_ ?_
   | refine LeO.bind ?_ (fun _ => ?_)
theorem slices_IndexFunc_at_impl_Source_gives_1.mono : ∀ a0 a1 a2 k, LeO (slices_IndexFunc_at_impl_Source_gives_1.f k a0 a1 a2) (slices_IndexFunc_at_impl_Source_gives_1.f (k + 1) a0 a1 a2) := by
 intro a0 a1 a2 k
 have ih0 := slices_IndexFunc_at_impl_Source_gives_1.mono_l k
 unfold slices_IndexFunc_at_impl_Source_gives_1.f
 repeat' first
   | (with_reducible exact ih0 _ _ _ _ _)
   | (with_reducible exact LeO.refl _)
   | (with_reducible exact LeO.none _)
   | (with_reducible refine LeO.ite ?_ ?_)
   | (with_reducible refine LeO.bind ?_ (fun _ => ?_))
   | exact ih0 _ _ _ _ _
   | exact LeO.none _
   | refine LeO.ite ?_ ?_
   | refine LeO.bind ?_ (fun _ => ?_)
set_option maxHeartbeats 64000000 in
set_option maxRecDepth 100000 in
theorem slices_IndexFunc_at_impl_Source_gives_1.calls (k : Nat) (A0 : Option Addr) (c0 : Nat) (l0 : List (S124)) (gc1_0 : Nat) (a1_0 : ByteArray) (a1_1 : Int) (r : Int) (w : World) (hr0 : Kd.C k124 w A0 l0.length l0) (hc0 : l0.length ≤ c0) (hk1_0 : w.heap[gc1_0]? = some (.cells #[.string a1_0, .int .i64 a1_1] 124 (0, 0))) (h : slices_IndexFunc_at_impl_Source_gives_1.f k l0 a1_0 a1_1 = some r) :
  Calls Try.prog 146 #[.slice A0 l0.length c0, .func (.func 126) #[] #[.pointer (some ⟨gc1_0, 0, none⟩)]] w fun e w' => e = .returned (.int .i64 r) ∧ Below w.heap.size w w' := by
 have hu124 := Try.underlying124
 obtain ⟨HR0, HC0, BK28, HB⟩ := zD4 hr0 hc0 hk1_0 (Below.refl w.heap.size w)
 clear hr0 hc0 hk1_0
 have H : (slices_IndexFunc_at_impl_Source_gives_1.l0 k l0 (l0.length : Int) 0 a1_0 a1_1) = some r := h
 clear h
 have H' := za H
 clear H
 go_enter Try.func146, Try.ntmps146
 go_wp2
 go_loopg [8] k (fun kq v8 w' => ∃ (x8_1 : Int), v8 = .int .i64 x8_1 ∧ Aside0 (slices_IndexFunc_at_impl_Source_gives_1.l0 kq l0 (l0.length : Int) x8_1 a1_0 a1_1 = some r) ∧ Aside0 (kq ≤ k) ∧ Aside0 (w'.heap[gc1_0]? = some (.cells #[.string a1_0, .int .i64 a1_1] 124 (0, 0))) ∧ Aside0 (Below w.heap.size w w'))
 case atStart => exact ⟨(0), zG105, H', ⟨Nat.le_refl _⟩, ⟨by (with_reducible repeat (first | refine zc ?_ _ | refine ze ?_ | refine zb ?_ _)); exact BK28.out⟩, ⟨zH87⟩⟩
 case round =>
  clear H'
  obtain ⟨x8_1, rfl, HA, HK1, BK28, HB⟩ := hrel
  cases gk with
  | zero => exact absurd HA.out (by simp [slices_IndexFunc_at_impl_Source_gives_1.l0])
  | succ k1 =>
   have H := HA.out
   clear HA
   simp only [slices_IndexFunc_at_impl_Source_gives_1.l0] at H
   by_cases c3 : x8_1 < (l0.length : Int)
   rotate_left
   ·rw [if_neg c3] at H
    have c3b0 := decide_eq_false c3
    clear c3
    obtain rfl := Option.some.inj H
    go_wp2
    go_ret
    exact zH37

   rw [if_pos c3] at H
   have c3b0 := decide_eq_true c3
   clear c3
   by_cases c4 : 0 ≤ x8_1
   rotate_left
   ·rw [if_neg c4] at H
    exact absurd H (by simp)
   rw [if_pos c4] at H
   have c4b0 := decide_eq_true c4
   clear c4
   by_cases c5 : x8_1 < (l0.length : Int)
   rotate_left
   ·rw [if_neg c5] at H
    exact absurd H (by simp)
   rw [if_pos c5] at H
   have c5b0 := decide_eq_true c5
   clear c5
   replace H := Option.bind_eq_some_iff.mp H
   obtain ⟨t143, A60, H⟩ := H
   replace H : (if t143 = true then (some x8_1) else (slices_IndexFunc_at_impl_Source_gives_1.l0 k1 l0 (l0.length : Int) (wrap64 (x8_1 + 1)) a1_0 a1_1)) = some r := H
   have A6 := za A60
   clear A60
   by_cases c7 : t143 = true
   ·subst c7
    have H1 : (some x8_1) = some r := by rw [if_pos rfl] at H; exact H
    clear H
    have H := H1
    clear H1
    obtain rfl := Option.some.inj H
    have p142 : 0 ≤ (x8_1 : Int) := zO
    have q142 : x8_1 < (l0.length : Int) := zO
    obtain ⟨ad142, e142, hx142_0, hx142_1⟩ := at_T124 HR0.out x8_1 p142 q142
    cases e142
    replace hx142_0 := (HB.out.cell (zj w _ hx142_0)).trans hx142_0
    replace hx142_1 := (HB.out.cell (zj w _ hx142_1)).trans hx142_1
    replace p142 := eq_true p142
    replace q142 := eq_true q142
    go_wp2_with (first | (go_at_call 126; (with_reducible refine (impl_Source_gives_1.calls ((rd_T124 l0 x8_1).f0) ((rd_T124 l0 x8_1).f1) gc1_0 a1_0 a1_1 true _ ?side1 A6.out).mono ?_); (case side1 => exact zH101); rintro e w8 ⟨rfl, hb⟩; have n_ := zA_ (za (zo (g := gc1_0) (o := .cells #[.string a1_0, .int .i64 a1_1] 124 (0, 0)) zK225 hb)) (za (zq zK205 hb)); clear BK28 HB; obtain ⟨BK28, HB⟩ := n_; (try clear hb)))
    go_ret
    exact zH37
   replace c7 := Bool.eq_false_iff.mpr c7
   subst c7
   have H1 : (slices_IndexFunc_at_impl_Source_gives_1.l0 k1 l0 (l0.length : Int) (wrap64 (x8_1 + 1)) a1_0 a1_1) = some r := by rw [if_neg (show ¬ (false = true) by decide)] at H; exact H
   clear H
   have H := H1
   clear H1
   have H' := za H
   clear H
   have p142 : 0 ≤ (x8_1 : Int) := zO
   have q142 : x8_1 < (l0.length : Int) := zO
   obtain ⟨ad142, e142, hx142_0, hx142_1⟩ := at_T124 HR0.out x8_1 p142 q142
   cases e142
   replace hx142_0 := (HB.out.cell (zj w _ hx142_0)).trans hx142_0
   replace hx142_1 := (HB.out.cell (zj w _ hx142_1)).trans hx142_1
   replace p142 := eq_true p142
   replace q142 := eq_true q142
   go_wp2_with (first | (go_at_call 126; (with_reducible refine (impl_Source_gives_1.calls ((rd_T124 l0 x8_1).f0) ((rd_T124 l0 x8_1).f1) gc1_0 a1_0 a1_1 false _ ?side1 A6.out).mono ?_); (case side1 => exact zH101); rintro e w9 ⟨rfl, hb⟩; have n_ := zA_ (za (zo (g := gc1_0) (o := .cells #[.string a1_0, .int .i64 a1_1] 124 (0, 0)) zK225 hb)) (za (zq zK205 hb)); clear BK28 HB; obtain ⟨BK28, HB⟩ := n_; (try clear hb)))
   go_roundg k1
   case measure => have := HK1.out; omega
   case rel => exact ⟨(wrap64 (x8_1 + 1)), zG105, H', ⟨zH127⟩, ⟨by (with_reducible repeat (first | refine zc ?_ _ | refine ze ?_ | refine zb ?_ _)); exact BK28.out⟩, ⟨zH87⟩⟩
/-! ### slices_ContainsFunc_at_impl_Source_gives_1: function 500000 -/
def slices_ContainsFunc_at_impl_Source_gives_1.f (k : Nat) (l0 : List (S124)) (a1_0 : ByteArray) (a1_1 : Int) : Option (Bool) := (slices_IndexFunc_at_impl_Source_gives_1.f k l0 a1_0 a1_1).bind fun t144 => (some (decide (t144 ≥ 0)))
theorem slices_ContainsFunc_at_impl_Source_gives_1.mono : ∀ a0 a1 a2 k, LeO (slices_ContainsFunc_at_impl_Source_gives_1.f k a0 a1 a2) (slices_ContainsFunc_at_impl_Source_gives_1.f (k + 1) a0 a1 a2) := by
 intro a0 a1 a2 k
 unfold slices_ContainsFunc_at_impl_Source_gives_1.f
 repeat' first
   | (with_reducible exact slices_IndexFunc_at_impl_Source_gives_1.mono _ _ _ _)
   | (with_reducible exact LeO.refl _)
   | (with_reducible exact LeO.none _)
   | (with_reducible refine LeO.ite ?_ ?_)
   | (with_reducible refine LeO.bind ?_ (fun _ => ?_))
   | exact slices_IndexFunc_at_impl_Source_gives_1.mono _ _ _ _
   | exact LeO.none _
   | refine LeO.ite ?_ ?_
   | refine LeO.bind ?_ (fun _ => ?_)
set_option maxHeartbeats 64000000 in
set_option maxRecDepth 100000 in
theorem slices_ContainsFunc_at_impl_Source_gives_1.calls (k : Nat) (A0 : Option Addr) (c0 : Nat) (l0 : List (S124)) (gc1_0 : Nat) (a1_0 : ByteArray) (a1_1 : Int) (r : Bool) (w : World) (hr0 : Kd.C k124 w A0 l0.length l0) (hc0 : l0.length ≤ c0) (hk1_0 : w.heap[gc1_0]? = some (.cells #[.string a1_0, .int .i64 a1_1] 124 (0, 0))) (h : slices_ContainsFunc_at_impl_Source_gives_1.f k l0 a1_0 a1_1 = some r) :
  Calls Try.prog 125 #[.slice A0 l0.length c0, .func (.func 126) #[] #[.pointer (some ⟨gc1_0, 0, none⟩)]] w fun e w' => e = .returned (.bool r) ∧ Below w.heap.size w w' := by
 obtain ⟨HR0, HC0, BK28, HB⟩ := zD4 hr0 hc0 hk1_0 (Below.refl w.heap.size w)
 clear hr0 hc0 hk1_0
 have H : ((slices_IndexFunc_at_impl_Source_gives_1.f k l0 a1_0 a1_1).bind fun t144 => (some (decide (t144 ≥ 0)))) = some r := h
 clear h
 replace H := Option.bind_eq_some_iff.mp H
 obtain ⟨t144, A30, H⟩ := H
 replace H : (some (decide (t144 ≥ 0))) = some r := H
 have A3 := za A30
 clear A30
 obtain rfl := Option.some.inj H
 go_enter Try.func125, Try.ntmps125
 go_wp2_with (first | ((with_reducible refine gate_callee (f := 146) rfl ?_); refine goesL_ (some 7) rfl rfl Try.func146 zG106 rfl #[.slice A0 l0.length c0, .func (.func 126) #[] #[.pointer (some ⟨gc1_0, 0, none⟩)]] rfl zG80 ?_; (with_reducible refine (slices_IndexFunc_at_impl_Source_gives_1.calls k _ _ l0 gc1_0 a1_0 a1_1 t144 _ ?side1 ?side2 ?side3 A3.out).mono ?_); (case side1 => exact zH84); (case side2 => exact zH128); (case side3 => exact zH101); rintro e w4 ⟨rfl, hb⟩; refine ⟨_, rfl, ?_⟩; have n_ := zA_ (za (zo (g := gc1_0) (o := .cells #[.string a1_0, .int .i64 a1_1] 124 (0, 0)) zK225 hb)) (za (zq zK205 hb)); clear BK28 HB; obtain ⟨BK28, HB⟩ := n_; (try clear hb)))
 go_ret
 exact zH37

/-! ### impl_Source_gives: function 83 -/
def impl_Source_gives.f (k : Nat) (a0_0 : ByteArray) (a0_1 : Int) (l0_2 : List (S124)) (a1_0 : ByteArray) (a1_1 : Int) : Option (Bool) := (slices_ContainsFunc_at_impl_Source_gives_1.f k l0_2 a1_0 a1_1).bind fun t147 => (some t147)
theorem impl_Source_gives.mono : ∀ a0 a1 a2 a3 a4 k, LeO (impl_Source_gives.f k a0 a1 a2 a3 a4) (impl_Source_gives.f (k + 1) a0 a1 a2 a3 a4) := by
 intro a0 a1 a2 a3 a4 k
 unfold impl_Source_gives.f
 repeat' first
   | (with_reducible exact slices_ContainsFunc_at_impl_Source_gives_1.mono _ _ _ _)
   | (with_reducible exact LeO.refl _)
   | (with_reducible exact LeO.none _)
   | (with_reducible refine LeO.ite ?_ ?_)
   | (with_reducible refine LeO.bind ?_ (fun _ => ?_))
   | exact slices_ContainsFunc_at_impl_Source_gives_1.mono _ _ _ _
   | exact LeO.none _
   | refine LeO.ite ?_ ?_
   | refine LeO.bind ?_ (fun _ => ?_)
set_option maxHeartbeats 64000000 in
set_option maxRecDepth 100000 in
theorem impl_Source_gives.calls (k : Nat) (a0_0 : ByteArray) (a0_1 : Int) (A0_2 : Option Addr) (c0_2 : Nat) (l0_2 : List (S124)) (a1_0 : ByteArray) (a1_1 : Int) (r : Bool) (w : World) (hr0_2 : Kd.C k124 w A0_2 l0_2.length l0_2) (hc0_2 : l0_2.length ≤ c0_2) (h : impl_Source_gives.f k a0_0 a0_1 l0_2 a1_0 a1_1 = some r) :
  Calls Try.prog 83 #[.agg #[.string a0_0, .int .i64 a0_1, .slice A0_2 l0_2.length c0_2], .agg #[.string a1_0, .int .i64 a1_1]] w fun e w' => e = .returned (.bool r) ∧ Below w.heap.size w w' := by
 have hu58 := Try.underlying58
 have hu124 := Try.underlying124
 obtain ⟨HR0_2, HC0_2, HB⟩ := zD3 hr0_2 hc0_2 (Below.refl w.heap.size w)
 clear hr0_2 hc0_2
 have H : ((slices_ContainsFunc_at_impl_Source_gives_1.f k l0_2 a1_0 a1_1).bind fun t147 => (some t147)) = some r := h
 clear h
 replace H := Option.bind_eq_some_iff.mp H
 obtain ⟨t147, A30, H⟩ := H
 replace H : (some t147) = some r := H
 have A3 := za A30
 clear A30
 obtain rfl := Option.some.inj H
 go_enter Try.func83, Try.ntmps83
 go_wp2_with (first | ((with_reducible refine gate_dst (N := 2) rfl ?_); refine box_event ?hg (N := 2) ?hd (cs := #[.string a0_0, .int .i64 a0_1, .slice A0_2 l0_2.length c0_2]) (t := 58) ?hr ?_; (case hd => rfl); (case hg => rfl); (case hr => exact zH124); intro gb145 hg w4 hbox hb; have n_ := zA_ (za (zq zG85 hb)) (zA_ (za (hbox)) (zA_ (zN1 w.heap.size hg (zp zG85)) (zN1 w.heap.size hg (zp zG85)))); clear HB; obtain ⟨HB, BK145, GW145, GE145⟩ := n_; clear hb hbox hg) | ((with_reducible refine gate_dst (N := 3) rfl ?_); refine box_event ?hg (N := 3) ?hd (cs := #[.string a1_0, .int .i64 a1_1]) (t := 124) ?hr ?_; (case hd => rfl); (case hg => rfl); (case hr => exact zH124); intro gb146 hg w5 hbox hb; have n_ := zA_ (za (zo (g := gb145) (o := .cells #[.string a0_0, .int .i64 a0_1, .slice A0_2 l0_2.length c0_2] 58 (0, 0)) zK211 hb)) (zA_ (za (zq zK193 hb)) (zA_ (za (hbox)) (zA_ (zN1 w.heap.size hg (zp zK193)) (zA_ (zN1 w.heap.size hg (zp zK193)) (zN2 hg (zz (g := gb145) (o := .cells #[.string a0_0, .int .i64 a0_1, .slice A0_2 l0_2.length c0_2] 58 (0, 0)) zK211)))))); clear BK145 HB; obtain ⟨BK145, HB, BK146, GW146, GE146, NB145_146, NB146_145⟩ := n_; clear hb hbox hg; have hnb6 := NB145_146.out; have hnc6 := NB146_145.out; obtain ⟨hcz7_0, hcz7_1, hcz7_2, hfz7_0, hfz7_1, hfz7_2⟩ := zB3 BK145.out) | ((with_reducible refine gate_callee (f := 125) rfl ?_); refine goesL_ (some 8) rfl rfl Try.func125 zG106 rfl #[.slice A0_2 l0_2.length c0_2, .func (.func 126) #[] #[.pointer (some ⟨gb146, 0, none⟩)]] rfl zG80 ?_; (with_reducible refine (slices_ContainsFunc_at_impl_Source_gives_1.calls k _ _ l0_2 gb146 a1_0 a1_1 t147 _ ?side1 ?side2 ?side3 A3.out).mono ?_); (case side1 => exact zH73); (case side2 => exact HC0_2.out); (case side3 => exact (by (with_reducible repeat (first | refine zc ?_ _ | refine ze ?_ | refine zb ?_ _)); exact BK146.out)); rintro e w8 ⟨rfl, hb⟩; refine ⟨_, rfl, ?_⟩; have n_ := zA_ (za (zo (g := gb145) (o := .cells #[.string a0_0, .int .i64 a0_1, .slice A0_2 l0_2.length c0_2] 58 (0, 0)) zK211 hb)) (zA_ (za (zo (g := gb146) (o := .cells #[.string a1_0, .int .i64 a1_1] 124 (0, 0)) (by (with_reducible repeat (first | refine zc ?_ _ | refine ze ?_ | refine zb ?_ _)); exact BK146.out) hb)) (za (zq (by repeat (first | (with_reducible first | exact HB.out | apply zh | apply zd | apply zg | refine zf ?_ GE145.out | refine zf ?_ GE146.out) | exact HB.out)) hb))); clear BK145 BK146 HB; obtain ⟨BK145, BK146, HB⟩ := n_; (try clear hb)))
 go_ret
 exact ⟨zH115, by repeat (first | (with_reducible first | exact HB.out | apply zh | apply zd | apply zg | refine zf ?_ GE145.out | refine zf ?_ GE146.out) | exact HB.out)⟩

/-! ### slices_Clone_int_int: function 84 -/
def slices_Clone_int_int.f (l0 : List Int) : Option (List Int) := (some (([] : List Int) : List Int)).bind fun y148 => (if y148.length + l0.length < 17592186044416 then (some (y148 ++ l0)) else (none))
set_option maxHeartbeats 64000000 in
set_option maxRecDepth 100000 in
theorem slices_Clone_int_int.calls (A0 : Option Addr) (c0 : Nat) (l0 : List Int) (r : List Int) (w : World) (hr0 : Kd.C (Kd.int .i64) w A0 l0.length l0) (hc0 : l0.length ≤ c0) (h : slices_Clone_int_int.f l0 = some r) :
  Calls Try.prog 84 #[.slice A0 l0.length c0] w fun e w' => ∃ v0_ : Value, e = .returned (v0_) ∧ Kd.R (Kd.int .i64) 3 w' w.heap.size (fun _ => True) v0_ r ∧ Below w.heap.size w w' := by
 obtain ⟨HR0, HC0, HB⟩ := zD3 hr0 hc0 (Below.refl w.heap.size w)
 clear hr0 hc0
 have H : ((some (([] : List Int) : List Int)).bind fun y148 => (if y148.length + l0.length < 17592186044416 then (some (y148 ++ l0)) else (none))) = some r := h
 clear h
 by_cases hA_ : A0 = none
 ·subst hA_
  have hl_ : l0 = [] := by
   cases l0 with
   | nil => rfl
   | cons x_ xs_ => obtain ⟨ad_, c_, e_, _⟩ := Kd.C_get HR0.out x_ 0 zG107 (by simp); cases e_
  subst hl_
  have e_ : [] = r := by simpa using H
  subst e_
  go_enter Try.func84, Try.ntmps84
  have hnil0_ : ∀ (W_ : World) (n_ c_ : Nat), (binOp .eql 24 (.slice none n_ c_) (.slice none 0 0)).run Try.prog W_ = .ok (.bool true) W_ := fun W_ n_ c_ => by simp only [binOp]; simp [run_equal_slice_nil W_ 24 3 none n_ c_ Try.underlying24]
  go_wp2
  go_ret
  exact ⟨_, rfl, zat _ _ _ _ _, HB.out⟩
 have hnil0_ : ∀ (W_ : World) (n_ c_ : Nat), (binOp .eql 24 (.slice A0 n_ c_) (.slice none 0 0)).run Try.prog W_ = .ok (.bool false) W_ := fun W_ n_ c_ => by cases A0 with | none => exact absurd rfl hA_ | some ad_ => simp only [binOp]; simp [run_equal_slice_nil W_ 24 3 (some ad_) n_ c_ Try.underlying24]
 obtain ⟨y148, hy148⟩ : ∃ y_ : List Int, y_ = (([] : List Int)) := ⟨_, rfl⟩
 replace H : (if y148.length + l0.length < 17592186044416 then (some (y148 ++ l0)) else (none)) = some r := by first | (rw [hy148]; with_reducible exact H) | (have H2_ := (Option.bind_some _ _).symm.trans H; rw [hy148]; with_reducible exact H2_) | (have H2_ := (Option.bind_some _ _).symm.trans H; with_reducible exact H2_) | with_reducible exact H | (rw [hy148]; exact H) | exact H
 have Ny148 := za hy148
 clear hy148
 by_cases c2 : y148.length + l0.length < 17592186044416
 rotate_left
 ·rw [if_neg c2] at H
  exact absurd H (by simp)

 rw [if_pos c2] at H
 have LMc2 := za c2
 clear c2
 obtain ⟨y151, hy151⟩ : ∃ y_ : List Int, y_ = (y148 ++ l0) := ⟨_, rfl⟩
 replace H : (some y151) = some r := by first | (rw [hy151]; with_reducible exact H) | (have H2_ := (Option.bind_some _ _).symm.trans H; rw [hy151]; with_reducible exact H2_) | (have H2_ := (Option.bind_some _ _).symm.trans H; with_reducible exact H2_) | with_reducible exact H | (rw [hy151]; exact H) | exact H
 have Ny151 := za hy151
 clear hy151
 obtain rfl := Option.some.inj H
 go_enter Try.func84, Try.ntmps84
 go_wp2_with (first | ((with_reducible refine gate_dst (N := 5) rfl ?_); refine zbm (Kd.int .i64) _ 3 ?hg (N := 5) ?hd (xs := ([] : List Int)) (inner := []) (ok := fun _ => True) (okp := fun _ => True) ?hr ?hp (fun _ hk => hk) trivial (Below.refl _ _) (Nat.le_refl _) (by simp) ?_; (case hd => rfl); (case hg => rfl); (case hr => exact zH124); (case hp => exact (Reps.none _ _)); intro v149 w3 ho4 hb hg_ hnew_; clear hg_ hnew_; (first | rw [← Ny148.out] at ho4 | (simp only [Int.reduceToNat] at ho4; rw [← Ny148.out] at ho4)); have n_ := zA_ (za (zah ho4 (zp zG85))) (za (zq zG85 hb)); clear HB; obtain ⟨HO150, HB⟩ := n_; clear hb ho4) | ((with_reducible refine gate_builtin (b := .append) (xs := #[.tmp 5, .tmp 6]) rfl ?_); at_builtin; refine Kd.R_append_rows (Kd.int .i64) (w0 := w) w.heap.size rfl (.tmp 5) (.tmp 6) 24 3 (.int .i64 0) 8 rfl Try.underlying24 info3 rfl zG107 (by omega) v149 y148 l0 _ _ _ (fun _ => True) (fun _ => False) rfl rfl ?aO ?aR (fun _ _ h => h) (fun _ h => h.elim) ?aF ?aB ?aS ?aL ?_; (case aR => exact zH75); (case aB => exact zG85); (case aF => exact (fun _ _ => trivial)); (case aO => exact (by (with_reducible repeat (first | apply zl | apply zm | apply zn)); exact HO150.out)); (case aS => exact (zp zG85)); (case aL => have := LMc2.out; omega); intro v152 w5 ho hb hg hat; rw [← Ny151.out] at ho; have n_ := zA_ (za (hb)) (za (ho)); clear HB HO150; obtain ⟨HB, HO153⟩ := n_; clear ho hb hg hat))
 go_ret
 exact ⟨_, zH115, by (with_reducible repeat (first | apply zl | apply zm | apply zn)); exact HO153.out, zH104⟩
/-! ### slices_Index_int_int: function 144 -/
def slices_Index_int_int.l0 : Nat → List Int → Int → Int → Int → Option (Int)
 | 0, _, _, _, _ => none
 | k + 1, x0, x1, x7, x8 => if x8 < x7 then (if 0 ≤ x8 then (if x8 < (x0.length : Int) then (if x1 = (rd x0 x8) then (some x8) else (slices_Index_int_int.l0 k x0 x1 x7 (wrap64 (x8 + 1)))) else (none)) else (none)) else (some (-1))
def slices_Index_int_int.f (k : Nat) (l0 : List Int) (a1 : Int) : Option (Int) := slices_Index_int_int.l0 k l0 a1 (l0.length : Int) 0
theorem slices_Index_int_int.mono_l : ∀ k, (∀ y0 y1 y2 y3, LeO (slices_Index_int_int.l0 k y0 y1 y2 y3) (slices_Index_int_int.l0 (k + 1) y0 y1 y2 y3))
 | 0 => fun _ _ _ _ r h => by simp [slices_Index_int_int.l0] at h
 | k + 1 => by
  have ih0 := slices_Index_int_int.mono_l k
  ·intro y0 y1 y2 y3
   unfold slices_Index_int_int.l0
   repeat' first
   | (with_reducible exact ih0 _ _ _ _)
   | (with_reducible exact LeO.refl _)
   | (with_reducible exact LeO.none _)
   | (with_reducible refine LeO.ite ?_ ?_)
   | (with_reducible refine LeO.bind ?_ (fun _ => ?_))
   | exact ih0 _ _ _ _
   | exact LeO.none _
   | refine LeO.ite ?_ ?_
   | refine LeO.bind ?_ (fun _ => ?_)
theorem slices_Index_int_int.mono : ∀ a0 a1 k, LeO (slices_Index_int_int.f k a0 a1) (slices_Index_int_int.f (k + 1) a0 a1) := by
 intro a0 a1 k
 have ih0 := slices_Index_int_int.mono_l k
 unfold slices_Index_int_int.f
 repeat' first
   | (with_reducible exact ih0 _ _ _ _)
   | (with_reducible exact LeO.refl _)
   | (with_reducible exact LeO.none _)
   | (with_reducible refine LeO.ite ?_ ?_)
   | (with_reducible refine LeO.bind ?_ (fun _ => ?_))
   | exact ih0 _ _ _ _
   | exact LeO.none _
   | refine LeO.ite ?_ ?_
   | refine LeO.bind ?_ (fun _ => ?_)
set_option maxHeartbeats 64000000 in
set_option maxRecDepth 100000 in
theorem slices_Index_int_int.calls (k : Nat) (A0 : Option Addr) (c0 : Nat) (l0 : List Int) (a1 : Int) (r : Int) (w : World) (hr0 : Kd.C (Kd.int .i64) w A0 l0.length l0) (hc0 : l0.length ≤ c0) (h : slices_Index_int_int.f k l0 a1 = some r) :
  Calls Try.prog 144 #[.slice A0 l0.length c0, .int .i64 a1] w fun e w' => e = .returned (.int .i64 r) ∧ Drawn0 w w' := by
 obtain ⟨HR0, HC0⟩ := zD2 hr0 hc0
 clear hr0 hc0
 have H : (slices_Index_int_int.l0 k l0 a1 (l0.length : Int) 0) = some r := h
 clear h
 have H' := za H
 clear H
 go_enter Try.func144, Try.ntmps144
 go_wp2
 go_loopg [8] k (fun kq v8 w' => ∃ (x8_1 : Int), v8 = .int .i64 x8_1 ∧ Aside0 (slices_Index_int_int.l0 kq l0 a1 (l0.length : Int) x8_1 = some r) ∧ Aside0 (kq ≤ k) ∧ Drawn0 w w')
 case atStart => exact ⟨(0), zG105, H', ⟨Nat.le_refl _⟩, zH120⟩
 case round =>
  clear H'
  obtain ⟨x8_1, rfl, HA, HK1, ⟨m1, rfl⟩⟩ := hrel
  cases gk with
  | zero => exact absurd HA.out (by simp [slices_Index_int_int.l0])
  | succ k1 =>
   have H := HA.out
   clear HA
   simp only [slices_Index_int_int.l0] at H
   by_cases c3 : x8_1 < (l0.length : Int)
   rotate_left
   ·rw [if_neg c3] at H
    have c3b0 := decide_eq_false c3
    clear c3
    obtain rfl := Option.some.inj H
    go_wp2
    go_ret
    exact zH91

   rw [if_pos c3] at H
   have c3b0 := decide_eq_true c3
   clear c3
   by_cases c4 : 0 ≤ x8_1
   rotate_left
   ·rw [if_neg c4] at H
    exact absurd H (by simp)
   rw [if_pos c4] at H
   have c4b0 := decide_eq_true c4
   clear c4
   by_cases c5 : x8_1 < (l0.length : Int)
   rotate_left
   ·rw [if_neg c5] at H
    exact absurd H (by simp)
   rw [if_pos c5] at H
   have c5b0 := decide_eq_true c5
   clear c5
   by_cases c6 : a1 = (rd l0 x8_1)
   ·rw [if_pos c6] at H
    have c6b0 : (a1 == (rd l0 x8_1)) = true := beq_iff_eq.mpr c6
    have c6b1 : (a1 != (rd l0 x8_1)) = false := bne_eq_false_iff_eq.mpr c6
    clear c6
    obtain rfl := Option.some.inj H
    have p154 : 0 ≤ (x8_1 : Int) := zO
    have q154 : x8_1 < (l0.length : Int) := zO
    obtain ⟨ad154, e154, hx154_0⟩ := zao HR0.out x8_1 p154 q154
    cases e154
    replace p154 := eq_true p154
    replace q154 := eq_true q154
    go_wp2
    go_ret
    exact zH91
   rw [if_neg c6] at H
   have c6b0 : (a1 == (rd l0 x8_1)) = false := beq_eq_false_iff_ne.mpr c6
   have c6b1 : (a1 != (rd l0 x8_1)) = true := bne_iff_ne.mpr c6
   have H' := za H
   clear H
   have p154 : 0 ≤ (x8_1 : Int) := zO
   have q154 : x8_1 < (l0.length : Int) := zO
   obtain ⟨ad154, e154, hx154_0⟩ := zao HR0.out x8_1 p154 q154
   cases e154
   replace p154 := eq_true p154
   replace q154 := eq_true q154
   go_wp2
   go_roundg k1
   case measure => have := HK1.out; omega
   case rel => exact ⟨(wrap64 (x8_1 + 1)), zG105, H', ⟨zH127⟩, zH120⟩
/-! ### slices_Contains_int_int: function 118 -/
def slices_Contains_int_int.f (k : Nat) (l0 : List Int) (a1 : Int) : Option (Bool) := (slices_Index_int_int.f k l0 a1).bind fun t155 => (some (decide (t155 ≥ 0)))
theorem slices_Contains_int_int.mono : ∀ a0 a1 k, LeO (slices_Contains_int_int.f k a0 a1) (slices_Contains_int_int.f (k + 1) a0 a1) := by
 intro a0 a1 k
 unfold slices_Contains_int_int.f
 repeat' first
   | (with_reducible exact slices_Index_int_int.mono _ _ _)
   | (with_reducible exact LeO.refl _)
   | (with_reducible exact LeO.none _)
   | (with_reducible refine LeO.ite ?_ ?_)
   | (with_reducible refine LeO.bind ?_ (fun _ => ?_))
   | exact slices_Index_int_int.mono _ _ _
   | exact LeO.none _
   | refine LeO.ite ?_ ?_
   | refine LeO.bind ?_ (fun _ => ?_)
set_option maxHeartbeats 64000000 in
set_option maxRecDepth 100000 in
theorem slices_Contains_int_int.calls (k : Nat) (A0 : Option Addr) (c0 : Nat) (l0 : List Int) (a1 : Int) (r : Bool) (w : World) (hr0 : Kd.C (Kd.int .i64) w A0 l0.length l0) (hc0 : l0.length ≤ c0) (h : slices_Contains_int_int.f k l0 a1 = some r) :
  Calls Try.prog 118 #[.slice A0 l0.length c0, .int .i64 a1] w fun e w' => e = .returned (.bool r) ∧ Drawn0 w w' := by
 obtain ⟨HR0, HC0⟩ := zD2 hr0 hc0
 clear hr0 hc0
 have H : ((slices_Index_int_int.f k l0 a1).bind fun t155 => (some (decide (t155 ≥ 0)))) = some r := h
 clear h
 replace H := Option.bind_eq_some_iff.mp H
 obtain ⟨t155, A30, H⟩ := H
 replace H : (some (decide (t155 ≥ 0))) = some r := H
 have A3 := za A30
 clear A30
 obtain rfl := Option.some.inj H
 go_enter Try.func118, Try.ntmps118
 go_wp2_with (first | ((with_reducible refine gate_callee (f := 144) rfl ?_); refine goesL_ (some 7) rfl rfl Try.func144 zG106 rfl #[.slice A0 l0.length c0, .int .i64 a1] rfl zG80 ?_; (with_reducible refine (slices_Index_int_int.calls k _ _ l0 a1 t155 _ ?side1 ?side2 A3.out).mono ?_); (case side1 => exact zH84); (case side2 => exact zH128); rintro e w' ⟨rfl, ⟨nd, rfl⟩⟩; refine ⟨_, rfl, ?_⟩))
 go_ret
 exact zH91

end Go.Proofs.Ytojncbpeeboooaa.V
