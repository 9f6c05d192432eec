-- squeezed
-- made by pp.py (wip/tools) out of the translation; Lean checks it
import Derived.Laws.Cover3
import Derived.Test.YtojncbpeeboooaaQ0
import Derived.Test.YtojncbpeeboooaaQ1
namespace Go.Proofs.Ytojncbpeeboooaa.Q
open Go.RowKit Go.Proofs.YtojncbpeeboooaaW.PrintWords Go.Proofs.YtojncbpeeboooaaW.PrintLast Go.Proofs.YtojncbpeeboooaaW.PrintMore
attribute [local go_sem] max2_int min2_int max_two min_two max_three min_three max_four min_four   -- for this text's walks alone
set_option linter.unusedVariables false
set_option linter.unusedSimpArgs false


/-! ### slices_ContainsFunc_at_impl_StopsOK_1: function 500000 -/
def slices_ContainsFunc_at_impl_StopsOK_1.f (k : Nat) (l0 : List (S37))  : Option (Bool) := (slices_IndexFunc_at_impl_StopsOK_1.f k l0).bind fun t171 => (some (decide (t171 ≥ 0)))
theorem slices_ContainsFunc_at_impl_StopsOK_1.mono : ∀ a0 k, LeO (slices_ContainsFunc_at_impl_StopsOK_1.f k a0) (slices_ContainsFunc_at_impl_StopsOK_1.f (k + 1) a0) := by
 intro a0 k
 unfold slices_ContainsFunc_at_impl_StopsOK_1.f
 repeat' first
   | (with_reducible exact slices_IndexFunc_at_impl_StopsOK_1.mono _ _)
   | (with_reducible exact LeO.refl _)
   | (with_reducible exact LeO.none _)
   | (with_reducible refine LeO.ite ?_ ?_)
   | (with_reducible refine LeO.bind ?_ (fun _ => ?_))
   | exact slices_IndexFunc_at_impl_StopsOK_1.mono _ _
   | exact LeO.none _
   | refine LeO.ite ?_ ?_
   | refine LeO.bind ?_ (fun _ => ?_)
set_option maxHeartbeats 64000000 in
set_option maxRecDepth 100000 in
theorem slices_ContainsFunc_at_impl_StopsOK_1.calls (k : Nat) (A0 : Option Addr) (c0 : Nat) (l0 : List (S37))  (r : Bool) (w : World) (hr0 : Kd.C k37 w A0 l0.length l0) (hc0 : l0.length ≤ c0) (h : slices_ContainsFunc_at_impl_StopsOK_1.f k l0 = some r) :
  Calls Try.prog 65 #[.slice A0 l0.length c0, .func (.func 66) #[] #[]] w fun e w' => e = .returned (.bool r) ∧ Below w.heap.size w w' := by
 obtain ⟨HR0, HC0, HB⟩ := zD3 hr0 hc0 (Below.refl w.heap.size w)
 clear hr0 hc0
 have H : ((slices_IndexFunc_at_impl_StopsOK_1.f k l0).bind fun t171 => (some (decide (t171 ≥ 0)))) = some r := h
 clear h
 replace H := Option.bind_eq_some_iff.mp H
 obtain ⟨t171, A30, H⟩ := H
 replace H : (some (decide (t171 ≥ 0))) = some r := H
 have A3 := za A30
 clear A30
 obtain rfl := Option.some.inj H
 go_enter Try.func65, Try.ntmps65
 go_wp2_with (first | ((with_reducible refine gate_callee (f := 120) rfl ?_); refine goesL_ (some 7) rfl rfl Try.func120 zG125 rfl #[.slice A0 l0.length c0, .func (.func 66) #[] #[]] rfl zG87 ?_; (with_reducible refine (slices_IndexFunc_at_impl_StopsOK_1.calls k _ _ l0 t171 _ ?side1 ?side2 A3.out).mono ?_); (case side1 => exact zH68); (case side2 => exact zH110); rintro e w4 ⟨rfl, hb⟩; refine ⟨_, rfl, ?_⟩; replace HB := za (zv zG95 hb); (try clear hb)))
 go_ret
 exact zH36

/-! ### impl_StopsOK: function 12 -/
def impl_StopsOK.f (k : Nat) (l0 : List (S37)) : Option (Bool) := if (l0.length : Int) ≤ 7 then ((slices_ContainsFunc_at_impl_StopsOK_1.f k l0).bind fun t172 => (some (!t172))) else (some false)
theorem impl_StopsOK.mono : ∀ a0 k, LeO (impl_StopsOK.f k a0) (impl_StopsOK.f (k + 1) a0) := by
 intro a0 k
 unfold impl_StopsOK.f
 repeat' first
   | (with_reducible exact slices_ContainsFunc_at_impl_StopsOK_1.mono _ _)
   | (with_reducible exact LeO.refl _)
   | (with_reducible exact LeO.none _)
   | (with_reducible refine LeO.ite ?_ ?_)
   | (with_reducible refine LeO.bind ?_ (fun _ => ?_))
   | exact slices_ContainsFunc_at_impl_StopsOK_1.mono _ _
   | exact LeO.none _
   | refine LeO.ite ?_ ?_
   | refine LeO.bind ?_ (fun _ => ?_)
set_option maxHeartbeats 64000000 in
set_option maxRecDepth 100000 in
theorem impl_StopsOK.calls (k : Nat) (A0 : Option Addr) (c0 : Nat) (l0 : List (S37)) (r : Bool) (w : World) (hr0 : Kd.C k37 w A0 l0.length l0) (hc0 : l0.length ≤ c0) (h : impl_StopsOK.f k l0 = some r) :
  Calls Try.prog 12 #[.slice A0 l0.length c0] w fun e w' => e = .returned (.bool r) ∧ Below w.heap.size w w' := by
 obtain ⟨HR0, HC0, HB⟩ := zD3 hr0 hc0 (Below.refl w.heap.size w)
 clear hr0 hc0
 have H : (if (l0.length : Int) ≤ 7 then ((slices_ContainsFunc_at_impl_StopsOK_1.f k l0).bind fun t172 => (some (!t172))) else (some false)) = some r := h
 clear h
 by_cases c2 : (l0.length : Int) ≤ 7
 rotate_left
 ·rw [if_neg c2] at H
  have c2b0 := decide_eq_false c2
  have c2b1 : decide (l0.length ≤ 7) = false := decide_eq_false (by omega)
  clear c2
  obtain rfl := Option.some.inj H
  go_enter Try.func12, Try.ntmps12
  go_wp2
  go_ret
  exact zH36

 rw [if_pos c2] at H
 have c2b0 := decide_eq_true c2
 have c2b1 : decide (l0.length ≤ 7) = true := decide_eq_true (by omega)
 clear c2
 replace H := Option.bind_eq_some_iff.mp H
 obtain ⟨t172, A30, H⟩ := H
 replace H : (some (!t172)) = some r := H
 have A3 := za A30
 clear A30
 obtain rfl := Option.some.inj H
 go_enter Try.func12, Try.ntmps12
 go_wp2_with (first | (go_at_call 65; (with_reducible refine (slices_ContainsFunc_at_impl_StopsOK_1.calls k _ _ l0 t172 _ ?side1 ?side2 A3.out).mono ?_); (case side1 => exact zH68); (case side2 => exact zH110); rintro e w4 ⟨rfl, hb⟩; replace HB := za (zv zG95 hb); (try clear hb)))
 go_ret
 exact zH36
/-! ### impl_Stop_117: function 117 -/
def impl_Stop_117.f (l0 : List (S37)) : Option (Bool) := some (decide ((l0.length : Int) ≤ 4096))
set_option maxHeartbeats 64000000 in
set_option maxRecDepth 100000 in
theorem impl_Stop_117.calls (A0 : Option Addr) (c0 : Nat) (l0 : List (S37)) (r : Bool) (w : World) (hr0 : Kd.C k37 w A0 l0.length l0) (hc0 : l0.length ≤ c0) (h : impl_Stop_117.f l0 = some r) :
  Calls Try.prog 117 #[.slice A0 l0.length c0] w fun e w' => e = .returned (.bool r) ∧ Drawn0 w w' := by
 obtain ⟨HR0, HC0⟩ := zD2 hr0 hc0
 clear hr0 hc0
 have H : (some (decide ((l0.length : Int) ≤ 4096))) = some r := h
 clear h
 obtain rfl := Option.some.inj H
 go_enter Try.func117, Try.ntmps117
 go_wp2
 go_ret
 exact zH74

/-! ### impl_stopsCode: function 59 -/
def impl_stopsCode.f (k : Nat) (l0 : List (S37)) (a1 : Int) : Option (Int) := (impl_Stop_117.f l0).bind fun t173 => (if t173 = true then ((impl_StopsOK.f k l0).bind fun t174 => (if t174 = true then ((impl_within.f a1 0 100000).bind fun t175 => (if t175 = true then (some 0) else (some 5))) else (some 1))) else (some 2))
theorem impl_stopsCode.mono : ∀ a0 a1 k, LeO (impl_stopsCode.f k a0 a1) (impl_stopsCode.f (k + 1) a0 a1) := by
 intro a0 a1 k
 unfold impl_stopsCode.f
 repeat' first
   | (with_reducible exact impl_StopsOK.mono _ _)
   | (with_reducible exact LeO.refl _)
   | (with_reducible exact LeO.none _)
   | (with_reducible refine LeO.ite ?_ ?_)
   | (with_reducible refine LeO.bind ?_ (fun _ => ?_))
   | exact impl_StopsOK.mono _ _
   | exact LeO.none _
   | refine LeO.ite ?_ ?_
   | refine LeO.bind ?_ (fun _ => ?_)
set_option maxHeartbeats 64000000 in
set_option maxRecDepth 100000 in
theorem impl_stopsCode.calls (k : Nat) (A0 : Option Addr) (c0 : Nat) (l0 : List (S37)) (a1 : Int) (r : Int) (w : World) (hr0 : Kd.C k37 w A0 l0.length l0) (hc0 : l0.length ≤ c0) (h : impl_stopsCode.f k l0 a1 = some r) :
  Calls Try.prog 59 #[.slice A0 l0.length c0, .int .i64 a1] w fun e w' => e = .returned (.int .i64 r) ∧ Below w.heap.size w w' := by
 obtain ⟨HR0, HC0, HB⟩ := zD3 hr0 hc0 (Below.refl w.heap.size w)
 clear hr0 hc0
 have H : ((impl_Stop_117.f l0).bind fun t173 => (if t173 = true then ((impl_StopsOK.f k l0).bind fun t174 => (if t174 = true then ((impl_within.f a1 0 100000).bind fun t175 => (if t175 = true then (some 0) else (some 5))) else (some 1))) else (some 2))) = some r := h
 clear h
 replace H := Option.bind_eq_some_iff.mp H
 obtain ⟨t173, A30, H⟩ := H
 replace H : (if t173 = true then ((impl_StopsOK.f k l0).bind fun t174 => (if t174 = true then ((impl_within.f a1 0 100000).bind fun t175 => (if t175 = true then (some 0) else (some 5))) else (some 1))) else (some 2)) = some r := H
 have A3 := za A30
 clear A30
 by_cases c4 : t173 = true
 rotate_left
 ·replace c4 := Bool.eq_false_iff.mpr c4
  subst c4
  have H1 : (some 2) = some r := by rw [if_neg (show ¬ (false = true) by decide)] at H; exact H
  clear H
  have H := H1
  clear H1
  obtain rfl := Option.some.inj H
  go_enter Try.func59, Try.ntmps59
  go_wp2_with (first | ((with_reducible refine gate_callee (f := 117) rfl ?_); refine goesL_ (some 7) rfl rfl Try.func117 zG125 rfl #[.slice A0 l0.length c0] rfl zG87 ?_; (with_reducible refine (impl_Stop_117.calls _ _ l0 false _ ?side1 ?side2 A3.out).mono ?_); (case side1 => exact zH68); (case side2 => exact zH110); rintro e w' ⟨rfl, ⟨nd, rfl⟩⟩; refine ⟨_, rfl, ?_⟩))
  go_ret
  exact zH36

 subst c4
 have H1 : ((impl_StopsOK.f k l0).bind fun t174 => (if t174 = true then ((impl_within.f a1 0 100000).bind fun t175 => (if t175 = true then (some 0) else (some 5))) else (some 1))) = some r := by rw [if_pos rfl] at H; exact H
 clear H
 have H := H1
 clear H1
 replace H := Option.bind_eq_some_iff.mp H
 obtain ⟨t174, A50, H⟩ := H
 replace H : (if t174 = true then ((impl_within.f a1 0 100000).bind fun t175 => (if t175 = true then (some 0) else (some 5))) else (some 1)) = some r := H
 have A5 := za A50
 clear A50
 by_cases c6 : t174 = true
 rotate_left
 ·replace c6 := Bool.eq_false_iff.mpr c6
  subst c6
  have H1 : (some 1) = some r := by rw [if_neg (show ¬ (false = true) by decide)] at H; exact H
  clear H
  have H := H1
  clear H1
  obtain rfl := Option.some.inj H
  go_enter Try.func59, Try.ntmps59
  go_wp2_with (first | ((with_reducible refine gate_callee (f := 117) rfl ?_); refine goesL_ (some 7) rfl rfl Try.func117 zG125 rfl #[.slice A0 l0.length c0] rfl zG87 ?_; (with_reducible refine (impl_Stop_117.calls _ _ l0 true _ ?side1 ?side2 A3.out).mono ?_); (case side1 => exact zH68); (case side2 => exact zH110); rintro e w' ⟨rfl, ⟨nd, rfl⟩⟩; refine ⟨_, rfl, ?_⟩) | ((with_reducible refine gate_callee (f := 12) rfl ?_); refine goesL_ (some 11) rfl rfl Try.func12 zG125 rfl #[.slice A0 l0.length c0] rfl zG87 ?_; (with_reducible refine (impl_StopsOK.calls k _ _ l0 false _ ?side1 ?side2 A5.out).mono ?_); (case side1 => exact zH68); (case side2 => exact zH110); rintro e w11 ⟨rfl, hb⟩; refine ⟨_, rfl, ?_⟩; replace HB := za (zv zG95 hb); (try clear hb)))
  go_ret
  exact zH36
 subst c6
 have H1 : ((impl_within.f a1 0 100000).bind fun t175 => (if t175 = true then (some 0) else (some 5))) = some r := by rw [if_pos rfl] at H; exact H
 clear H
 have H := H1
 clear H1
 replace H := Option.bind_eq_some_iff.mp H
 obtain ⟨t175, A70, H⟩ := H
 replace H : (if t175 = true then (some 0) else (some 5)) = some r := H
 have A7 := za A70
 clear A70
 by_cases c8 : t175 = true
 ·subst c8
  have H1 : (some 0) = some r := by rw [if_pos rfl] at H; exact H
  clear H
  have H := H1
  clear H1
  obtain rfl := Option.some.inj H
  go_enter Try.func59, Try.ntmps59
  go_wp2_with (first | ((with_reducible refine gate_callee (f := 117) rfl ?_); refine goesL_ (some 7) rfl rfl Try.func117 zG125 rfl #[.slice A0 l0.length c0] rfl zG87 ?_; (with_reducible refine (impl_Stop_117.calls _ _ l0 true _ ?side1 ?side2 A3.out).mono ?_); (case side1 => exact zH68); (case side2 => exact zH110); rintro e w' ⟨rfl, ⟨nd, rfl⟩⟩; refine ⟨_, rfl, ?_⟩) | ((with_reducible refine gate_callee (f := 12) rfl ?_); refine goesL_ (some 11) rfl rfl Try.func12 zG125 rfl #[.slice A0 l0.length c0] rfl zG87 ?_; (with_reducible refine (impl_StopsOK.calls k _ _ l0 true _ ?side1 ?side2 A5.out).mono ?_); (case side1 => exact zH68); (case side2 => exact zH110); rintro e w9 ⟨rfl, hb⟩; refine ⟨_, rfl, ?_⟩; replace HB := za (zv zG95 hb); (try clear hb)) | ((with_reducible refine gate_callee (f := 88) rfl ?_); refine goesL_ (some 15) rfl rfl Try.func88 zG125 rfl #[.int .i64 a1, .int .i64 0, .int .i64 100000] rfl zG87 ?_; (with_reducible refine (impl_within.calls a1 0 100000 true _ A7.out).mono ?_); rintro e w' ⟨rfl, ⟨nd, rfl⟩⟩; refine ⟨_, rfl, ?_⟩))
  go_ret
  exact zH36
 replace c8 := Bool.eq_false_iff.mpr c8
 subst c8
 have H1 : (some 5) = some r := by rw [if_neg (show ¬ (false = true) by decide)] at H; exact H
 clear H
 have H := H1
 clear H1
 obtain rfl := Option.some.inj H
 go_enter Try.func59, Try.ntmps59
 go_wp2_with (first | ((with_reducible refine gate_callee (f := 117) rfl ?_); refine goesL_ (some 7) rfl rfl Try.func117 zG125 rfl #[.slice A0 l0.length c0] rfl zG87 ?_; (with_reducible refine (impl_Stop_117.calls _ _ l0 true _ ?side1 ?side2 A3.out).mono ?_); (case side1 => exact zH68); (case side2 => exact zH110); rintro e w' ⟨rfl, ⟨nd, rfl⟩⟩; refine ⟨_, rfl, ?_⟩) | ((with_reducible refine gate_callee (f := 12) rfl ?_); refine goesL_ (some 11) rfl rfl Try.func12 zG125 rfl #[.slice A0 l0.length c0] rfl zG87 ?_; (with_reducible refine (impl_StopsOK.calls k _ _ l0 true _ ?side1 ?side2 A5.out).mono ?_); (case side1 => exact zH68); (case side2 => exact zH110); rintro e w10 ⟨rfl, hb⟩; refine ⟨_, rfl, ?_⟩; replace HB := za (zv zG95 hb); (try clear hb)) | ((with_reducible refine gate_callee (f := 88) rfl ?_); refine goesL_ (some 15) rfl rfl Try.func88 zG125 rfl #[.int .i64 a1, .int .i64 0, .int .i64 100000] rfl zG87 ?_; (with_reducible refine (impl_within.calls a1 0 100000 false _ A7.out).mono ?_); rintro e w' ⟨rfl, ⟨nd, rfl⟩⟩; refine ⟨_, rfl, ?_⟩))
 go_ret
 exact zH36
/-! ### slices_Clone_int_int: function 84 -/
def slices_Clone_int_int.f (l0 : List Int) : Option (List Int) := (some (([] : List Int) : List Int)).bind fun y176 => (if y176.length + l0.length < 17592186044416 then (some (y176 ++ l0)) else (none))
set_option maxHeartbeats 64000000 in
set_option maxRecDepth 100000 in
theorem slices_Clone_int_int.calls (A0 : Option Addr) (c0 : Nat) (l0 : List Int) (r : List Int) (w : World) (hr0 : Kd.C (Kd.int .i64) w A0 l0.length l0) (hc0 : l0.length ≤ c0) (h : slices_Clone_int_int.f l0 = some r) :
  Calls Try.prog 84 #[.slice A0 l0.length c0] w fun e w' => ∃ v0_ : Value, e = .returned (v0_) ∧ Kd.R (Kd.int .i64) 3 w' w.heap.size (fun _ => True) v0_ r ∧ Below w.heap.size w w' := by
 obtain ⟨HR0, HC0, HB⟩ := zD3 hr0 hc0 (Below.refl w.heap.size w)
 clear hr0 hc0
 have H : ((some (([] : List Int) : List Int)).bind fun y176 => (if y176.length + l0.length < 17592186044416 then (some (y176 ++ l0)) else (none))) = some r := h
 clear h
 by_cases hA_ : A0 = none
 ·subst hA_
  have hl_ : l0 = [] := by
   cases l0 with
   | nil => rfl
   | cons x_ xs_ => obtain ⟨ad_, c_, e_, _⟩ := Kd.C_get HR0.out x_ 0 zG126 (by simp); cases e_
  subst hl_
  have e_ : [] = r := by simpa using H
  subst e_
  go_enter Try.func84, Try.ntmps84
  have hnil0_ : ∀ (W_ : World) (n_ c_ : Nat), (binOp .eql 24 (.slice none n_ c_) (.slice none 0 0)).run Try.prog W_ = .ok (.bool true) W_ := fun W_ n_ c_ => by simp only [binOp]; simp [run_equal_slice_nil W_ 24 3 none n_ c_ Try.underlying24]
  go_wp2
  go_ret
  exact ⟨_, rfl, zas _ _ _ _ _, HB.out⟩
 have hnil0_ : ∀ (W_ : World) (n_ c_ : Nat), (binOp .eql 24 (.slice A0 n_ c_) (.slice none 0 0)).run Try.prog W_ = .ok (.bool false) W_ := fun W_ n_ c_ => by cases A0 with | none => exact absurd rfl hA_ | some ad_ => simp only [binOp]; simp [run_equal_slice_nil W_ 24 3 (some ad_) n_ c_ Try.underlying24]
 obtain ⟨y176, hy176⟩ : ∃ y_ : List Int, y_ = (([] : List Int)) := ⟨_, rfl⟩
 replace H : (if y176.length + l0.length < 17592186044416 then (some (y176 ++ l0)) else (none)) = some r := by first | (rw [hy176]; with_reducible exact H) | (have H2_ := (Option.bind_some _ _).symm.trans H; rw [hy176]; with_reducible exact H2_) | (have H2_ := (Option.bind_some _ _).symm.trans H; with_reducible exact H2_) | with_reducible exact H | (rw [hy176]; exact H) | exact H
 have Ny176 := za hy176
 clear hy176
 by_cases c2 : y176.length + l0.length < 17592186044416
 rotate_left
 ·rw [if_neg c2] at H
  exact absurd H (by simp)

 rw [if_pos c2] at H
 have LMc2 := za c2
 clear c2
 obtain ⟨y179, hy179⟩ : ∃ y_ : List Int, y_ = (y176 ++ l0) := ⟨_, rfl⟩
 replace H : (some y179) = some r := by first | (rw [hy179]; with_reducible exact H) | (have H2_ := (Option.bind_some _ _).symm.trans H; rw [hy179]; with_reducible exact H2_) | (have H2_ := (Option.bind_some _ _).symm.trans H; with_reducible exact H2_) | with_reducible exact H | (rw [hy179]; exact H) | exact H
 have Ny179 := za hy179
 clear hy179
 obtain rfl := Option.some.inj H
 go_enter Try.func84, Try.ntmps84
 go_wp2_with (first | ((with_reducible refine gate_dst (N := 5) rfl ?_); refine zbg (Kd.int .i64) _ 3 ?hg (N := 5) ?hd (xs := ([] : List Int)) (inner := []) (ok := fun _ => True) (okp := fun _ => True) ?hr ?hp (fun _ hk => hk) trivial (Below.refl _ _) (Nat.le_refl _) (by simp) ?_; (case hd => rfl); (case hg => rfl); (case hr => exact zH103); (case hp => exact (Reps.none _ _)); intro v177 w3 ho4 hb hg_ hnew_; clear hg_ hnew_; (first | rw [← Ny176.out] at ho4 | (simp only [Int.reduceToNat] at ho4; rw [← Ny176.out] at ho4)); have n_ := zA_ (za (zae ho4 (zt zG95))) (za (zv zG95 hb)); clear HB; obtain ⟨HO178, HB⟩ := n_; clear hb ho4) | ((with_reducible refine gate_builtin (b := .append) (xs := #[.tmp 5, .tmp 6]) rfl ?_); at_builtin; refine Kd.R_append_rows (Kd.int .i64) (w0 := w) w.heap.size rfl (.tmp 5) (.tmp 6) 24 3 (.int .i64 0) 8 rfl Try.underlying24 info3 rfl zG126 (by omega) v177 y176 l0 _ _ _ (fun _ => True) (fun _ => False) rfl rfl ?aO ?aR (fun _ _ h => h) (fun _ h => h.elim) ?aF ?aB ?aS ?aL ?_; (case aR => exact zH58); (case aB => exact zG95); (case aF => exact (fun _ _ => trivial)); (case aO => exact (by (with_reducible repeat (first | apply zf | apply zg | apply zh)); exact HO178.out)); (case aS => exact (zt zG95)); (case aL => have := LMc2.out; omega); intro v180 w5 ho hb hg hat; rw [← Ny179.out] at ho; have n_ := zA_ (za (hb)) (za (ho)); clear HB HO178; obtain ⟨HB, HO181⟩ := n_; clear ho hb hg hat))
 go_ret
 exact ⟨_, zH92, by (with_reducible repeat (first | apply zf | apply zg | apply zh)); exact HO181.out, zH83⟩
/-! ### slices_Index_int_int: function 144 -/
def slices_Index_int_int.l0 : Nat → List Int → Int → Int → Int → Option (Int)
 | 0, _, _, _, _ => none
 | k + 1, x0, x1, x7, x8 => if x8 < x7 then (if 0 ≤ x8 then (if x8 < (x0.length : Int) then (if x1 = (rd x0 x8) then (some x8) else (slices_Index_int_int.l0 k x0 x1 x7 (wrap64 (x8 + 1)))) else (none)) else (none)) else (some (-1))
def slices_Index_int_int.f (k : Nat) (l0 : List Int) (a1 : Int) : Option (Int) := slices_Index_int_int.l0 k l0 a1 (l0.length : Int) 0
theorem slices_Index_int_int.mono_l : ∀ k, (∀ y0 y1 y2 y3, LeO (slices_Index_int_int.l0 k y0 y1 y2 y3) (slices_Index_int_int.l0 (k + 1) y0 y1 y2 y3))
 | 0 => fun _ _ _ _ r h => by simp [slices_Index_int_int.l0] at h
 | k + 1 => by
  have ih0 := slices_Index_int_int.mono_l k
  ·intro y0 y1 y2 y3
   unfold slices_Index_int_int.l0
   repeat' first
   | (with_reducible exact ih0 _ _ _ _)
   | (with_reducible exact LeO.refl _)
   | (with_reducible exact LeO.none _)
   | (with_reducible refine LeO.ite ?_ ?_)
   | (with_reducible refine LeO.bind ?_ (fun _ => ?_))
   | exact ih0 _ _ _ _
   | exact LeO.none _
   | refine LeO.ite ?_ ?_
   | refine LeO.bind ?_ (fun _ => ?_)
theorem slices_Index_int_int.mono : ∀ a0 a1 k, LeO (slices_Index_int_int.f k a0 a1) (slices_Index_int_int.f (k + 1) a0 a1) := by
 intro a0 a1 k
 have ih0 := slices_Index_int_int.mono_l k
 unfold slices_Index_int_int.f
 repeat' first
   | (with_reducible exact ih0 _ _ _ _)
   | (with_reducible exact LeO.refl _)
   | (with_reducible exact LeO.none _)
   | (with_reducible refine LeO.ite ?_ ?_)
   | (with_reducible refine LeO.bind ?_ (fun _ => ?_))
   | exact ih0 _ _ _ _
   | exact LeO.none _
   | refine LeO.ite ?_ ?_
   | refine LeO.bind ?_ (fun _ => ?_)
set_option maxHeartbeats 64000000 in
set_option maxRecDepth 100000 in
theorem slices_Index_int_int.calls (k : Nat) (A0 : Option Addr) (c0 : Nat) (l0 : List Int) (a1 : Int) (r : Int) (w : World) (hr0 : Kd.C (Kd.int .i64) w A0 l0.length l0) (hc0 : l0.length ≤ c0) (h : slices_Index_int_int.f k l0 a1 = some r) :
  Calls Try.prog 144 #[.slice A0 l0.length c0, .int .i64 a1] w fun e w' => e = .returned (.int .i64 r) ∧ Drawn0 w w' := by
 obtain ⟨HR0, HC0⟩ := zD2 hr0 hc0
 clear hr0 hc0
 have H : (slices_Index_int_int.l0 k l0 a1 (l0.length : Int) 0) = some r := h
 clear h
 have H' := za H
 clear H
 go_enter Try.func144, Try.ntmps144
 go_wp2
 go_loopg [8] k (fun kq v8 w' => ∃ (x8_1 : Int), v8 = .int .i64 x8_1 ∧ Aside0 (slices_Index_int_int.l0 kq l0 a1 (l0.length : Int) x8_1 = some r) ∧ Aside0 (kq ≤ k) ∧ Drawn0 w w')
 case atStart => exact ⟨(0), zG124, H', ⟨Nat.le_refl _⟩, zH99⟩
 case round =>
  clear H'
  obtain ⟨x8_1, rfl, HA, HK1, ⟨m1, rfl⟩⟩ := hrel
  cases gk with
  | zero => exact absurd HA.out (by simp [slices_Index_int_int.l0])
  | succ k1 =>
   have H := HA.out
   clear HA
   simp only [slices_Index_int_int.l0] at H
   by_cases c3 : x8_1 < (l0.length : Int)
   rotate_left
   ·rw [if_neg c3] at H
    have c3b0 := decide_eq_false c3
    clear c3
    obtain rfl := Option.some.inj H
    go_wp2
    go_ret
    exact zH74

   rw [if_pos c3] at H
   have c3b0 := decide_eq_true c3
   clear c3
   by_cases c4 : 0 ≤ x8_1
   rotate_left
   ·rw [if_neg c4] at H
    exact absurd H (by simp)
   rw [if_pos c4] at H
   have c4b0 := decide_eq_true c4
   clear c4
   by_cases c5 : x8_1 < (l0.length : Int)
   rotate_left
   ·rw [if_neg c5] at H
    exact absurd H (by simp)
   rw [if_pos c5] at H
   have c5b0 := decide_eq_true c5
   clear c5
   by_cases c6 : a1 = (rd l0 x8_1)
   ·rw [if_pos c6] at H
    have c6b0 : (a1 == (rd l0 x8_1)) = true := beq_iff_eq.mpr c6
    have c6b1 : (a1 != (rd l0 x8_1)) = false := bne_eq_false_iff_eq.mpr c6
    clear c6
    obtain rfl := Option.some.inj H
    have p182 : 0 ≤ (x8_1 : Int) := zO
    have q182 : x8_1 < (l0.length : Int) := zO
    obtain ⟨ad182, e182, hx182_0⟩ := zao HR0.out x8_1 p182 q182
    cases e182
    replace p182 := eq_true p182
    replace q182 := eq_true q182
    go_wp2
    go_ret
    exact zH74
   rw [if_neg c6] at H
   have c6b0 : (a1 == (rd l0 x8_1)) = false := beq_eq_false_iff_ne.mpr c6
   have c6b1 : (a1 != (rd l0 x8_1)) = true := bne_iff_ne.mpr c6
   have H' := za H
   clear H
   have p182 : 0 ≤ (x8_1 : Int) := zO
   have q182 : x8_1 < (l0.length : Int) := zO
   obtain ⟨ad182, e182, hx182_0⟩ := zao HR0.out x8_1 p182 q182
   cases e182
   replace p182 := eq_true p182
   replace q182 := eq_true q182
   go_wp2
   go_roundg k1
   case measure => have := HK1.out; omega
   case rel => exact ⟨(wrap64 (x8_1 + 1)), zG124, H', ⟨zH106⟩, zH99⟩
/-! ### slices_Contains_int_int: function 118 -/
def slices_Contains_int_int.f (k : Nat) (l0 : List Int) (a1 : Int) : Option (Bool) := (slices_Index_int_int.f k l0 a1).bind fun t183 => (some (decide (t183 ≥ 0)))
theorem slices_Contains_int_int.mono : ∀ a0 a1 k, LeO (slices_Contains_int_int.f k a0 a1) (slices_Contains_int_int.f (k + 1) a0 a1) := by
 intro a0 a1 k
 unfold slices_Contains_int_int.f
 repeat' first
   | (with_reducible exact slices_Index_int_int.mono _ _ _)
   | (with_reducible exact LeO.refl _)
   | (with_reducible exact LeO.none _)
   | (with_reducible refine LeO.ite ?_ ?_)
   | (with_reducible refine LeO.bind ?_ (fun _ => ?_))
   | exact slices_Index_int_int.mono _ _ _
   | exact LeO.none _
   | refine LeO.ite ?_ ?_
   | refine LeO.bind ?_ (fun _ => ?_)
set_option maxHeartbeats 64000000 in
set_option maxRecDepth 100000 in
theorem slices_Contains_int_int.calls (k : Nat) (A0 : Option Addr) (c0 : Nat) (l0 : List Int) (a1 : Int) (r : Bool) (w : World) (hr0 : Kd.C (Kd.int .i64) w A0 l0.length l0) (hc0 : l0.length ≤ c0) (h : slices_Contains_int_int.f k l0 a1 = some r) :
  Calls Try.prog 118 #[.slice A0 l0.length c0, .int .i64 a1] w fun e w' => e = .returned (.bool r) ∧ Drawn0 w w' := by
 obtain ⟨HR0, HC0⟩ := zD2 hr0 hc0
 clear hr0 hc0
 have H : ((slices_Index_int_int.f k l0 a1).bind fun t183 => (some (decide (t183 ≥ 0)))) = some r := h
 clear h
 replace H := Option.bind_eq_some_iff.mp H
 obtain ⟨t183, A30, H⟩ := H
 replace H : (some (decide (t183 ≥ 0))) = some r := H
 have A3 := za A30
 clear A30
 obtain rfl := Option.some.inj H
 go_enter Try.func118, Try.ntmps118
 go_wp2_with (first | ((with_reducible refine gate_callee (f := 144) rfl ?_); refine goesL_ (some 7) rfl rfl Try.func144 zG125 rfl #[.slice A0 l0.length c0, .int .i64 a1] rfl zG87 ?_; (with_reducible refine (slices_Index_int_int.calls k _ _ l0 a1 t183 _ ?side1 ?side2 A3.out).mono ?_); (case side1 => exact zH68); (case side2 => exact zH110); rintro e w' ⟨rfl, ⟨nd, rfl⟩⟩; refine ⟨_, rfl, ?_⟩))
 go_ret
 exact zH74

/-! ### impl_sizeOf: function 124 -/
def impl_sizeOf.f (a0 : Int) : Option (Int) := some (mx a0 (wrap64 (-a0)))
set_option maxHeartbeats 64000000 in
set_option maxRecDepth 100000 in
theorem impl_sizeOf.calls (a0 : Int) (r : Int) (w : World) (h : impl_sizeOf.f a0 = some r) :
  Calls Try.prog 124 #[.int .i64 a0] w fun e w' => e = .returned (.int .i64 r) ∧ Below w.heap.size w w' := by
 have HB := za (Below.refl w.heap.size w)
 have H : (some (mx a0 (wrap64 (-a0)))) = some r := h
 clear h
 obtain ⟨ji2, hji2⟩ : ∃ j_ : Int, (mx a0 (wrap64 (-a0))) = j_ := ⟨_, rfl⟩
 replace H : (some ji2) = some r := by first | (rw [hji2] at H; exact H) | (simp only [hji2] at H ⊢; exact H)
 have hji2_ : (if a0 < (wrap64 (-a0)) then (wrap64 (-a0)) else a0) = ji2 := hji2
 obtain rfl := Option.some.inj H
 go_enter Try.func124, Try.ntmps124
 go_wp2
 go_ret
 exact ⟨by first | rfl | (simp [errW_none, errW_some] <;> rfl) | (simp only [← hji2]; first | rfl | (simp [errW_none, errW_some] <;> rfl)) | (simp [*, errW_none, errW_some] <;> rfl), zH83⟩

/-! ### impl_away: function 70 -/
def impl_away.f (a0_0 : Int) (a0_1 : Int) (a0_2 : Int) (a0_3 : Int) (a0_4 : Int) (a1_0 : Int) (a1_1 : Int) (a1_2 : Int) (a1_3 : Int) (a1_4 : Int) : Option (Int) := (impl_sizeOf.f (wrap64 (a0_0 - a1_0))).bind fun t186 => ((impl_sizeOf.f (wrap64 (a0_1 - a1_1))).bind fun t187 => (some (wrap64 (t186 + t187))))
def impl_away.T1 : Bool × List (List Nat × List Nat) := (true, [([], []), ([0], [0]), ([], []), ([2], [2]), ([1, 3], [1, 3]), ([4], [4]), ([], []), ([6], [6]), ([], []), ([8], [8]), ([7, 9], [7, 9]), ([10, 5], [10]), ([5, 11], [5, 11]), ([12, 11, 0, 1, 2, 3, 4, 5, 6, 7, 8, 9, 10, 11, 12], [12])])
def impl_away.B1 : List Nat := [0, 1, 0, 4, 15, 31, 0, 64, 0, 256, 960, 2047, 4095, 8191]
theorem impl_away.tab1 : rtab .any (opsOf Try.f70 1) = impl_away.T1 := by kernel_rfl
theorem impl_away.bits1 : waitsOk impl_away.T1.2 impl_away.B1 = true := by kernel_rfl
set_option maxHeartbeats 64000000 in
set_option maxRecDepth 100000 in
theorem impl_away.calls (a0_0 : Int) (a0_1 : Int) (a0_2 : Int) (a0_3 : Int) (a0_4 : Int) (a1_0 : Int) (a1_1 : Int) (a1_2 : Int) (a1_3 : Int) (a1_4 : Int) (r : Int) (w : World) (h : impl_away.f a0_0 a0_1 a0_2 a0_3 a0_4 a1_0 a1_1 a1_2 a1_3 a1_4 = some r) :
  Calls Try.prog 70 #[.agg #[.int .i64 a0_0, .int .i64 a0_1, .int .i64 a0_2, .int .i64 a0_3, .int .i64 a0_4], .agg #[.int .i64 a1_0, .int .i64 a1_1, .int .i64 a1_2, .int .i64 a1_3, .int .i64 a1_4]] w fun e w' => e = .returned (.int .i64 r) ∧ Below w.heap.size w w' := by
 have hu37 := Try.underlying37
 have HB := za (Below.refl w.heap.size w)
 have H : ((impl_sizeOf.f (wrap64 (a0_0 - a1_0))).bind fun t186 => ((impl_sizeOf.f (wrap64 (a0_1 - a1_1))).bind fun t187 => (some (wrap64 (t186 + t187))))) = some r := h
 clear h
 replace H := Option.bind_eq_some_iff.mp H
 obtain ⟨t186, A30, H⟩ := H
 replace H : ((impl_sizeOf.f (wrap64 (a0_1 - a1_1))).bind fun t187 => (some (wrap64 (t186 + t187)))) = some r := H
 have A3 := za A30
 clear A30
 replace H := Option.bind_eq_some_iff.mp H
 obtain ⟨t187, A40, H⟩ := H
 replace H : (some (wrap64 (t186 + t187))) = some r := H
 have A4 := za A40
 clear A40
 obtain rfl := Option.some.inj H
 go_enter Try.func70, Try.ntmps70
 try go_wp2_with (first | ((with_reducible refine gate_dst (N := 2) rfl ?_); refine box_event ?hg (N := 2) ?hd (cs := #[.int .i64 a0_0, .int .i64 a0_1, .int .i64 a0_2, .int .i64 a0_3, .int .i64 a0_4]) (t := 37) ?hr ?_; (case hd => rfl); (case hg => rfl); (case hr => exact zH103); intro gb184 hg w5 hbox hb; have n_ := zA_ (za (zv zG95 hb)) (zA_ (za (hbox)) (zA_ (zN1 w.heap.size hg (zt zG95)) (zN1 w.heap.size hg (zt zG95)))); clear HB; obtain ⟨HB, BK184, GW184, GE184⟩ := n_; clear hb hbox hg) | ((with_reducible refine gate_dst (N := 3) rfl ?_); refine box_event ?hg (N := 3) ?hd (cs := #[.int .i64 a1_0, .int .i64 a1_1, .int .i64 a1_2, .int .i64 a1_3, .int .i64 a1_4]) (t := 37) ?hr ?_; (case hd => rfl); (case hg => rfl); (case hr => exact zH103); intro gb185 hg w6 hbox hb; have n_ := zA_ (za (zs (g := gb184) (o := .cells #[.int .i64 a0_0, .int .i64 a0_1, .int .i64 a0_2, .int .i64 a0_3, .int .i64 a0_4] 37 (0, 0)) zK181 hb)) (zA_ (za (zv zK174 hb)) (zA_ (za (hbox)) (zA_ (zN1 w.heap.size hg (zt zK174)) (zA_ (zN1 w.heap.size hg (zt zK174)) (zN2 hg (zac (g := gb184) (o := .cells #[.int .i64 a0_0, .int .i64 a0_1, .int .i64 a0_2, .int .i64 a0_3, .int .i64 a0_4] 37 (0, 0)) zK181)))))); clear BK184 HB; obtain ⟨BK184, HB, BK185, GW185, GE185, NB184_185, NB185_184⟩ := n_; clear hb hbox hg))
 obtain ⟨n0_, n1_, n2_⟩ := zD3 (ze BK184.out) (ze BK185.out) (zk HB.out)
 clear BK184 BK185 HB
 have BK184 := n0_
 have BK185 := n1_
 have HB := n2_
 clear n0_ n1_ n2_
 refine start_ (n := 14) (S := fun w' => w'.cell? ⟨gb184, 0, none⟩ = some (.int .i64 a0_0) ∧ w'.cell? ⟨gb184, 1, none⟩ = some (.int .i64 a0_1) ∧ w'.cell? ⟨gb184, 2, none⟩ = some (.int .i64 a0_2) ∧ w'.cell? ⟨gb184, 3, none⟩ = some (.int .i64 a0_3) ∧ w'.cell? ⟨gb184, 4, none⟩ = some (.int .i64 a0_4) ∧ w'.cell? ⟨gb185, 0, none⟩ = some (.int .i64 a1_0) ∧ w'.cell? ⟨gb185, 1, none⟩ = some (.int .i64 a1_1) ∧ w'.cell? ⟨gb185, 2, none⟩ = some (.int .i64 a1_2) ∧ w'.cell? ⟨gb185, 3, none⟩ = some (.int .i64 a1_3) ∧ w'.cell? ⟨gb185, 4, none⟩ = some (.int .i64 a1_4)) (ds := []) #[false, false, false, false, false, false, false, false, false, false, false, false, false, false] zG125 rfl rfl ⟨(zl BK184.out 0).trans rfl, (zl BK184.out 1).trans rfl, (zl BK184.out 2).trans rfl, (zl BK184.out 3).trans rfl, (zl BK184.out 4).trans rfl, (zl BK185.out 0).trans rfl, (zl BK185.out 1).trans rfl, (zl BK185.out 2).trans rfl, (zl BK185.out 3).trans rfl, (zl BK185.out 4).trans rfl⟩ (fun hHeld => ?_); refine with_tabW impl_away.tab1 impl_away.bits1 (fun HT_ HW_ => ?_)
 generalize w6.drew = w7 at BK184 BK185 HB hHeld ⊢
 refine zP 0 5 #[true, false, false, false, false, false, false, false, false, false, false, false, false, false] HT_ ?_
 refine zP 2 7 #[true, false, true, false, false, false, false, false, false, false, false, false, false, false] HT_ ?_
 refine zP 6 11 #[true, false, true, false, false, false, true, false, false, false, false, false, false, false] HT_ ?_
 refine zP 8 13 #[true, false, true, false, false, false, true, false, true, false, false, false, false, false] HT_ ?_
 refine zQ 1 6 #[true, true, true, false, false, false, true, false, true, false, false, false, false, false] HT_ HW_ hHeld ?_
 refine zQ 3 8 #[true, true, true, true, false, false, true, false, true, false, false, false, false, false] HT_ HW_ hHeld ?_
 refine zP 4 9 #[true, true, true, true, true, false, true, false, true, false, false, false, false, false] HT_ ?_
 refine zQ 7 12 #[true, true, true, true, true, false, true, true, true, false, false, false, false, false] HT_ HW_ hHeld ?_
 refine zQ 9 14 #[true, true, true, true, true, false, true, true, true, true, false, false, false, false] HT_ HW_ hHeld ?_
 refine zP 10 15 #[true, true, true, true, true, false, true, true, true, true, true, false, false, false] HT_ ?_
 refine one_ (i := 5) (N := some 10) #[true, true, true, true, true, true, true, true, true, true, true, false, false, false] rfl rfl (one_of HT_.out zG125) zG126 (fun K hK => ?_)
 refine goes_ Try.func124 zG125 rfl #[.int .i64 (wrap64 (a0_0 - a1_0))] (by rfl) rfl rfl zG87 ?_
 with_reducible refine (impl_sizeOf.calls (wrap64 (a0_0 - a1_0)) t186 _ A3.out).mono ?_
 rintro e w8 ⟨rfl, hb⟩
 refine ⟨_, rfl, ?_⟩
 obtain ⟨n0_, n1_, n2_⟩ := zD3 (zs (g := gb184) (o := .cells #[.int .i64 a0_0, .int .i64 a0_1, .int .i64 a0_2, .int .i64 a0_3, .int .i64 a0_4] 37 (0, 0)) zK181 hb) (zs (g := gb185) (o := .cells #[.int .i64 a1_0, .int .i64 a1_1, .int .i64 a1_2, .int .i64 a1_3, .int .i64 a1_4] 37 (0, 0)) (by (with_reducible repeat (first | refine zc ?_ _ | refine ze ?_ | refine zb ?_ _)); exact BK185.out) hb) (zv zK166 hb)
 clear BK184 BK185 HB
 have BK184 := n0_
 have BK185 := n1_
 have HB := n2_
 clear n0_ n1_ n2_
 (try clear hb)
 (try clear hb2)
 (try clear hk)
 (try clear hi)
 refine hK.out _ _ ⟨(zl BK184.out 0).trans rfl, (zl BK184.out 1).trans rfl, (zl BK184.out 2).trans rfl, (zl BK184.out 3).trans rfl, (zl BK184.out 4).trans rfl, (zl BK185.out 0).trans rfl, (zl BK185.out 1).trans rfl, (zl BK185.out 2).trans rfl, (zl BK185.out 3).trans rfl, (zl BK185.out 4).trans rfl⟩ (fun hHeld => ?_)
 clear hK K
 refine norm_ (a' := ?_) ?_ ?_
 rotate_left
 ·show Act.put _ (some 10) _ = _
  simp only [Act.put, List.setIfInBounds_toArray, List.set_cons_zero, List.set_cons_succ, i64_w, i32_w]
  rfl
 refine one_ (i := 11) (N := some 16) #[true, true, true, true, true, true, true, true, true, true, true, true, false, false] rfl rfl (one_of HT_.out zG125) zG126 (fun K hK => ?_)
 refine goes_ Try.func124 zG125 rfl #[.int .i64 (wrap64 (a0_1 - a1_1))] (by rfl) rfl rfl zG87 ?_
 with_reducible refine (impl_sizeOf.calls (wrap64 (a0_1 - a1_1)) t187 _ A4.out).mono ?_
 rintro e w9 ⟨rfl, hb⟩
 refine ⟨_, rfl, ?_⟩
 obtain ⟨n0_, n1_, n2_⟩ := zD3 (zs (g := gb184) (o := .cells #[.int .i64 a0_0, .int .i64 a0_1, .int .i64 a0_2, .int .i64 a0_3, .int .i64 a0_4] 37 (0, 0)) zK181 hb) (zs (g := gb185) (o := .cells #[.int .i64 a1_0, .int .i64 a1_1, .int .i64 a1_2, .int .i64 a1_3, .int .i64 a1_4] 37 (0, 0)) (by (with_reducible repeat (first | refine zc ?_ _ | refine ze ?_ | refine zb ?_ _)); exact BK185.out) hb) (zv zK166 hb)
 clear BK184 BK185 HB
 have BK184 := n0_
 have BK185 := n1_
 have HB := n2_
 clear n0_ n1_ n2_
 (try clear hb)
 (try clear hb2)
 (try clear hk)
 (try clear hi)
 refine hK.out _ _ ⟨(zl BK184.out 0).trans rfl, (zl BK184.out 1).trans rfl, (zl BK184.out 2).trans rfl, (zl BK184.out 3).trans rfl, (zl BK184.out 4).trans rfl, (zl BK185.out 0).trans rfl, (zl BK185.out 1).trans rfl, (zl BK185.out 2).trans rfl, (zl BK185.out 3).trans rfl, (zl BK185.out 4).trans rfl⟩ (fun hHeld => ?_)
 clear hK K
 refine norm_ (a' := ?_) ?_ ?_
 rotate_left
 ·show Act.put _ (some 16) _ = _
  simp only [Act.put, List.setIfInBounds_toArray, List.set_cons_zero, List.set_cons_succ, i64_w, i32_w]
  rfl
 refine zP 12 17 #[true, true, true, true, true, true, true, true, true, true, true, true, true, false] HT_ ?_
 refine zP 13 4 #[true, true, true, true, true, true, true, true, true, true, true, true, true, true] HT_ ?_
 refine done_ (done_of HT_.out zG125) ?_
 try go_wp2
 go_ret
 exact ⟨zH92, by repeat (first | (with_reducible first | exact HB.out | apply zm | apply zj | apply zk | refine zi ?_ GE184.out | refine zi ?_ GE185.out) | exact HB.out)⟩

end Go.Proofs.Ytojncbpeeboooaa.Q
