-- squeezed
-- made by pp.py (wip/tools) out of the translation; Lean checks it
import Derived.Test.YtojncbpeeboooaaX0
import Derived.Test.YtojncbpeeboooaaX8
import Derived.Test.YtojncbpeeboooaaX10
namespace Go.Proofs.Ytojncbpeeboooaa.X
open Go.RowKit Go.Proofs.YtojncbpeeboooaaW.PrintWords Go.Proofs.YtojncbpeeboooaaW.PrintLast Go.Proofs.YtojncbpeeboooaaW.PrintMore
attribute [local go_sem] max2_int min2_int max_two min_two max_three min_three max_four min_four   -- for this text's walks alone
set_option linter.unusedVariables false
set_option linter.unusedSimpArgs false


/-! ### spec_SourcesOK: function 90 -/
mutual
def spec_SourcesOK.j0 : Nat → List (S58) → Bool → Option (Bool)
 | 0, _, _ => none
 | k + 1, x0, x15 => if x15 = true then (some false) else (spec_SourcesOK.l0 k x0 0)
def spec_SourcesOK.l0 : Nat → List (S58) → Int → Option (Bool)
 | 0, _, _ => none
 | k + 1, x0, x5 => if x5 < (x0.length : Int) then (if 0 ≤ x5 then ((spec_NameOK.f k ((rd_T58 x0 x5).f0)).bind fun t318 => (if t318 = true then ((spec_l01In.f ((rd_T58 x0 x5).f1) 0 1000000).bind fun t319 => (if t319 = true then ((spec_l23Stock.f k ((rd_T58 x0 x5).f2) 12 0).bind fun t320 => (spec_SourcesOK.j2 k x0 x5 (!t320) ((rd_T58 x0 x5).f0) ((rd_T58 x0 x5).f1) ((rd_T58 x0 x5).f2))) else (spec_SourcesOK.j2 k x0 x5 true ((rd_T58 x0 x5).f0) ((rd_T58 x0 x5).f1) ((rd_T58 x0 x5).f2)))) else (spec_SourcesOK.j2 k x0 x5 true ((rd_T58 x0 x5).f0) ((rd_T58 x0 x5).f1) ((rd_T58 x0 x5).f2)))) else (none)) else (some true)
def spec_SourcesOK.j2 : Nat → List (S58) → Int → Bool → ByteArray → Int → List (S124) → Option (Bool)
 | 0, _, _, _, _, _, _ => none
 | k + 1, x0, x5, x41, x318000, x318001, x318002 => if x41 = true then (some false) else (spec_SourcesOK.l1 k x0 x5 0 x318000 x318001 x318002)
def spec_SourcesOK.l1 : Nat → List (S58) → Int → Int → ByteArray → Int → List (S124) → Option (Bool)
 | 0, _, _, _, _, _, _ => none
 | k + 1, x0, x5, x7, x318000, x318001, x318002 => if x7 < x5 then (if 0 ≤ x7 then (if x7 < (x0.length : Int) then (if ((rd_T58 x0 x7).f0).toList = x318000.toList then (some false) else (spec_SourcesOK.l1 k x0 x5 (wrap64 (x7 + 1)) x318000 x318001 x318002)) else (none)) else (none)) else (spec_SourcesOK.l0 k x0 (wrap64 (x5 + 1)))
end
def spec_SourcesOK.f (k : Nat) (l0 : List (S58)) (l1 : List (S124)) : Option (Bool) := if (l0.length : Int) > 6 then (spec_SourcesOK.j0 k l0 true) else ((spec_l23Stock.f k l1 5 1).bind fun t315 => (spec_SourcesOK.j0 k l0 (!t315)))
theorem spec_SourcesOK.mono_l : ∀ k, (∀ y0 y1, LeO (spec_SourcesOK.j0 k y0 y1) (spec_SourcesOK.j0 (k + 1) y0 y1)) ∧ (∀ y0 y1, LeO (spec_SourcesOK.l0 k y0 y1) (spec_SourcesOK.l0 (k + 1) y0 y1)) ∧ (∀ y0 y1 y2 y3 y4 y5, LeO (spec_SourcesOK.j2 k y0 y1 y2 y3 y4 y5) (spec_SourcesOK.j2 (k + 1) y0 y1 y2 y3 y4 y5)) ∧ (∀ y0 y1 y2 y3 y4 y5, LeO (spec_SourcesOK.l1 k y0 y1 y2 y3 y4 y5) (spec_SourcesOK.l1 (k + 1) y0 y1 y2 y3 y4 y5))
 | 0 => ⟨fun _ _ r h => by simp [spec_SourcesOK.j0] at h, fun _ _ r h => by simp [spec_SourcesOK.l0] at h, fun _ _ _ _ _ _ r h => by simp [spec_SourcesOK.j2] at h, fun _ _ _ _ _ _ r h => by simp [spec_SourcesOK.l1] at h⟩
 | k + 1 => by
  obtain ⟨ih0, ih1, ih2, ih3⟩ := spec_SourcesOK.mono_l k
  refine ⟨?_, ?_, ?_, ?_⟩
  ·intro y0 y1
   unfold spec_SourcesOK.j0
   repeat' first
   | (with_reducible exact ih0 _ _)
   | (with_reducible exact ih1 _ _)
   | (with_reducible exact ih2 _ _ _ _ _ _)
   | (with_reducible exact ih3 _ _ _ _ _ _)
   | (with_reducible exact spec_NameOK.mono _ _)
   | (with_reducible exact spec_l23Stock.mono _ _ _ _)
   | (with_reducible exact LeO.refl _)
   | (with_reducible exact LeO.none _)
   | (with_reducible refine LeO.ite ?_ ?_)
   | (with_reducible refine LeO.bind ?_ (fun _ => ?_))
   | exact ih0 _ _
   | exact ih1 _ _
   | exact ih2 _ _ _ _ _ _
   | exact ih3 _ _ _ _ _ _
   | exact spec_NameOK.mono _ _
   | exact spec_l23Stock.mono _ _ _ _
   | exact LeO.none _
   | refine LeO.ite ?_ ?_
   | refine LeO.bind ?_ (fun _ => ?_)
  ·intro y0 y1
   unfold spec_SourcesOK.l0
   repeat' first
   | (with_reducible exact ih0 _ _)
   | (with_reducible exact ih1 _ _)
   | (with_reducible exact ih2 _ _ _ _ _ _)
   | (with_reducible exact ih3 _ _ _ _ _ _)
   | (with_reducible exact spec_NameOK.mono _ _)
   | (with_reducible exact spec_l23Stock.mono _ _ _ _)
   | (with_reducible exact LeO.refl _)
   | (with_reducible exact LeO.none _)
   | (with_reducible refine LeO.ite ?_ ?_)
   | (with_reducible refine LeO.bind ?_ (fun _ => ?_))
   | exact ih0 _ _
   | exact ih1 _ _
   | exact ih2 _ _ _ _ _ _
   | exact ih3 _ _ _ _ _ _
   | exact spec_NameOK.mono _ _
   | exact spec_l23Stock.mono _ _ _ _
   | exact LeO.none _
   | refine LeO.ite ?_ ?_
   | refine LeO.bind ?_ (fun _ => ?_)
  ·intro y0 y1 y2 y3 y4 y5
   unfold spec_SourcesOK.j2
   repeat' first
   | (with_reducible exact ih0 _ _)
   | (with_reducible exact ih1 _ _)
   | (with_reducible exact ih2 _ _ _ _ _ _)
   | (with_reducible exact ih3 _ _ _ _ _ _)
   | (with_reducible exact spec_NameOK.mono _ _)
   | (with_reducible exact spec_l23Stock.mono _ _ _ _)
   | (with_reducible exact LeO.refl _)
   | (with_reducible exact LeO.none _)
   | (with_reducible refine LeO.ite ?_ ?_)
   | (with_reducible refine LeO.bind ?_ (fun _ => ?_))
   | exact ih0 _ _
   | exact ih1 _ _
   | exact ih2 _ _ _ _ _ _
   | exact ih3 _ _ _ _ _ _
   | exact spec_NameOK.mono _ _
   | exact spec_l23Stock.mono _ _ _ _
   | exact LeO.none _
   | refine LeO.ite ?_ ?_
   | refine LeO.bind ?_ (fun _ => ?_)
  ·intro y0 y1 y2 y3 y4 y5
   unfold spec_SourcesOK.l1
   repeat' first
   | (with_reducible exact ih0 _ _)
   | (with_reducible exact ih1 _ _)
   | (with_reducible exact ih2 _ _ _ _ _ _)
   | (with_reducible exact ih3 _ _ _ _ _ _)
   | (with_reducible exact spec_NameOK.mono _ _)
   | (with_reducible exact spec_l23Stock.mono _ _ _ _)
   | (with_reducible exact LeO.refl _)
   | (with_reducible exact LeO.none _)
   | (with_reducible refine LeO.ite ?_ ?_)
   | (with_reducible refine LeO.bind ?_ (fun _ => ?_))
   | exact ih0 _ _
   | exact ih1 _ _
   | exact ih2 _ _ _ _ _ _
   | exact ih3 _ _ _ _ _ _
   | exact spec_NameOK.mono _ _
   | exact spec_l23Stock.mono _ _ _ _
   | exact LeO.none _
   | refine LeO.ite ?_ ?_
   | refine LeO.bind ?_ (fun _ => ?_)
theorem spec_SourcesOK.mono : ∀ a0 a1 k, LeO (spec_SourcesOK.f k a0 a1) (spec_SourcesOK.f (k + 1) a0 a1) := by
 intro a0 a1 k
 obtain ⟨ih0, ih1, ih2, ih3⟩ := spec_SourcesOK.mono_l k
 unfold spec_SourcesOK.f
 repeat' first
   | (with_reducible exact ih0 _ _)
   | (with_reducible exact ih1 _ _)
   | (with_reducible exact ih2 _ _ _ _ _ _)
   | (with_reducible exact ih3 _ _ _ _ _ _)
   | (with_reducible exact spec_NameOK.mono _ _)
   | (with_reducible exact spec_l23Stock.mono _ _ _ _)
   | (with_reducible exact LeO.refl _)
   | (with_reducible exact LeO.none _)
   | (with_reducible refine LeO.ite ?_ ?_)
   | (with_reducible refine LeO.bind ?_ (fun _ => ?_))
   | exact ih0 _ _
   | exact ih1 _ _
   | exact ih2 _ _ _ _ _ _
   | exact ih3 _ _ _ _ _ _
   | exact spec_NameOK.mono _ _
   | exact spec_l23Stock.mono _ _ _ _
   | exact LeO.none _
   | refine LeO.ite ?_ ?_
   | refine LeO.bind ?_ (fun _ => ?_)
set_option maxHeartbeats 64000000 in
set_option maxRecDepth 100000 in
theorem spec_SourcesOK.calls (k : Nat) (A0 : Option Addr) (c0 : Nat) (l0 : List (S58)) (A1 : Option Addr) (c1 : Nat) (l1 : List (S124)) (r : Bool) (w : World) (hr0 : Kd.C k58 w A0 l0.length l0) (hc0 : l0.length ≤ c0) (hr1 : Kd.C k124 w A1 l1.length l1) (hc1 : l1.length ≤ c1) (h : spec_SourcesOK.f k l0 l1 = some r) :
  Calls Try.prog 90 #[.slice A0 l0.length c0, .slice A1 l1.length c1] w fun e w' => e = .returned (.bool r) ∧ Below w.heap.size w w' := by
 have hu58 := Try.underlying58
 obtain ⟨HR0, HC0, HR1, HC1, HB⟩ := zD5 hr0 hc0 hr1 hc1 (Below.refl w.heap.size w)
 clear hr0 hc0 hr1 hc1
 have H : (if (l0.length : Int) > 6 then (spec_SourcesOK.j0 k l0 true) else ((spec_l23Stock.f k l1 5 1).bind fun t315 => (spec_SourcesOK.j0 k l0 (!t315)))) = some r := h
 clear h
 have HC3 := za H
 clear H
 go_enter Try.func90, Try.ntmps90
 go_upto_region 1 with (fail)
 repeat (go_quiet (fail); go_upto_region 1 with (fail))
 go_cut [15] (fun v15 wc => ∃ (kq : Nat) (x15_2 : Bool), v15 = .bool x15_2 ∧ Aside0 (spec_SourcesOK.j0 kq l0 x15_2 = some r) ∧ Aside0 (kq ≤ k) ∧ Aside0 (Below w.heap.size w wc))
 case first =>
  have H := HC3.out
  clear HC3
  by_cases c4 : (l0.length : Int) > 6
  ·rw [if_pos c4] at H
   have c4b0 : decide (6 < (l0.length : Int)) = true := decide_eq_true c4
   have c4b1 : decide (6 < l0.length) = true := decide_eq_true (by omega)
   clear c4
   (first | rw [c4b0] | (simp only [i64_w, i32_w]; rw [c4b0]) | skip)
   have H' := za H
   clear H
   go_wp2
   repeat (go_quiet (fail); try go_wp2)
   go_meet
   case rel => exact ⟨_, (true), zG127, H', ⟨zH120⟩, ⟨zH98⟩⟩
  rw [if_neg c4] at H
  have c4b0 : decide (6 < (l0.length : Int)) = false := decide_eq_false c4
  have c4b1 : decide (6 < l0.length) = false := decide_eq_false (by omega)
  clear c4
  (first | rw [c4b0] | (simp only [i64_w, i32_w]; rw [c4b0]) | skip)
  replace H := Option.bind_eq_some_iff.mp H
  obtain ⟨t315, A50, H⟩ := H
  replace H : (spec_SourcesOK.j0 k l0 (!t315)) = some r := H
  have A5 := za A50
  clear A50
  have H' := za H
  clear H
  go_wp2_with (first | (go_at_call 133; (with_reducible refine (spec_l23Stock.calls k _ _ l1 5 1 t315 _ ?side1 ?side2 A5.out).mono ?_); (case side1 => exact zH66); (case side2 => exact zH127); rintro e w' ⟨rfl, ⟨nd, rfl⟩⟩; (try first | exact ⟨rfl, _, World.drewN_drewN _ _ _⟩ | exact ⟨rfl, _, Eq.trans (World.drewN_drewN _ _ _) (congrArg (World.drewN _) (Nat.add_assoc _ _ _))⟩)))
  repeat (go_quiet (first | (go_at_call 133; (with_reducible refine (spec_l23Stock.calls k _ _ l1 5 1 t315 _ ?side1 ?side2 A5.out).mono ?_); (case side1 => exact zH66); (case side2 => exact zH127); rintro e w' ⟨rfl, ⟨nd, rfl⟩⟩; (try first | exact ⟨rfl, _, World.drewN_drewN _ _ _⟩ | exact ⟨rfl, _, Eq.trans (World.drewN_drewN _ _ _) (congrArg (World.drewN _) (Nat.add_assoc _ _ _))⟩))); try go_wp2_with (first | (go_at_call 133; (with_reducible refine (spec_l23Stock.calls k _ _ l1 5 1 t315 _ ?side1 ?side2 A5.out).mono ?_); (case side1 => exact zH66); (case side2 => exact zH127); rintro e w' ⟨rfl, ⟨nd, rfl⟩⟩; (try first | exact ⟨rfl, _, World.drewN_drewN _ _ _⟩ | exact ⟨rfl, _, Eq.trans (World.drewN_drewN _ _ _) (congrArg (World.drewN _) (Nat.add_assoc _ _ _))⟩))))
  go_meet
  case rel => exact ⟨_, (!t315), zG127, H', ⟨zH120⟩, ⟨zH98⟩⟩
 case rest =>
  clear HC3
  try clear c1
  try clear c4
  try clear c4b0
  try clear c4b1
  obtain ⟨kq, x15_2, rfl, HA, HJ2, HB⟩ := hcut
  cases kq with
  | zero => exact absurd HA.out (by simp [spec_SourcesOK.j0])
  | succ kj2 =>
   have H := HA.out
   clear HA
   simp only [spec_SourcesOK.j0] at H
   by_cases c6 : x15_2 = true
   ·subst c6
    have H1 : (some false) = some r := by rw [if_pos rfl] at H; exact H
    clear H
    have H := H1
    clear H1
    obtain rfl := Option.some.inj H
    go_wp2
    repeat (go_quiet (fail); try go_wp2)
    go_ret
    exact zH37
   replace c6 := Bool.eq_false_iff.mpr c6
   subst c6
   have H1 : (spec_SourcesOK.l0 kj2 l0 0) = some r := by rw [if_neg (show ¬ (false = true) by decide)] at H; exact H
   clear H
   have H := H1
   clear H1
   have H' := za H
   clear H
   go_wp2
   repeat (go_quiet (fail); try go_wp2)
   go_loopg [5] kj2 (fun kq v5 w' => ∃ (x5_2 : Int), v5 = .int .i64 x5_2 ∧ Aside0 (spec_SourcesOK.l0 kq l0 x5_2 = some r) ∧ Aside0 (kq ≤ kj2) ∧ Aside0 (Below w.heap.size w w'))
   case atStart => exact ⟨(0), zG127, H', ⟨Nat.le_refl _⟩, ⟨zH98⟩⟩
   case round =>
    clear H'
    try clear c1
    try clear c4
    try clear c4b0
    try clear c4b1
    try clear c6
    obtain ⟨x5_2, rfl, HA, HK2, HB⟩ := hrel
    cases gk with
    | zero => exact absurd HA.out (by simp [spec_SourcesOK.l0])
    | succ k2 =>
     have H := HA.out
     clear HA
     simp only [spec_SourcesOK.l0] at H
     by_cases c7 : x5_2 < (l0.length : Int)
     rotate_left
     ·rw [if_neg c7] at H
      have c7b0 := decide_eq_false c7
      clear c7
      obtain rfl := Option.some.inj H
      go_wp2
      repeat (go_quiet (fail); try go_wp2)
      go_ret
      exact zH37

     rw [if_pos c7] at H
     have c7b0 := decide_eq_true c7
     clear c7
     by_cases c8 : 0 ≤ x5_2
     rotate_left
     ·rw [if_neg c8] at H
      exact absurd H (by simp)
     rw [if_pos c8] at H
     have c8b0 := decide_eq_true c8
     clear c8
     have HC9 := za H
     clear H
     have p316 : 0 ≤ (x5_2 : Int) := zO
     have q316 : x5_2 < (l0.length : Int) := zO
     obtain ⟨ad316, A316_2, c316_2, e316, hx316_0, hx316_1, hx316_2, hl316_2, hi316_2⟩ := at_T58 HR0.out x5_2 p316 q316
     cases e316
     replace hx316_0 := (HB.out.cell (zn w _ hx316_0)).trans hx316_0
     replace hx316_1 := (HB.out.cell (zn w _ hx316_1)).trans hx316_1
     replace hx316_2 := (HB.out.cell (zn w _ hx316_2)).trans hx316_2
     obtain ⟨HR316_2, HC316_2⟩ := zD2 hi316_2 hl316_2
     clear hi316_2 hl316_2
     replace p316 := eq_true p316
     replace q316 := eq_true q316
     go_upto_region 7 with (first | ((with_reducible refine gate_dst (N := 6) rfl ?_); refine box_event ?hg (N := 6) ?hd (cs := #[.string (⟨#[]⟩ : ByteArray), .int .i64 0, .slice none 0 0]) (t := 58) ?hr ?_; (case hd => rfl); (case hg => rfl); (case hr => exact zH119); intro gb317 hg w10 hbox hb; have n_ := zA_ (za (zu zG102 hb)) (zA_ (za (hbox)) (zA_ (zN1 w.heap.size hg (zq zG102)) (zN1 w.heap.size hg (zq zG102)))); clear HB; obtain ⟨HB, BK317, GW317, GE317⟩ := n_; clear hb hbox hg; obtain ⟨hcz11_0, hcz11_1, hcz11_2, hfz11_0, hfz11_1, hfz11_2⟩ := zB3 BK317.out))
     repeat (go_quiet (first | ((with_reducible refine gate_dst (N := 6) rfl ?_); refine box_event ?hg (N := 6) ?hd (cs := #[.string (⟨#[]⟩ : ByteArray), .int .i64 0, .slice none 0 0]) (t := 58) ?hr ?_; (case hd => rfl); (case hg => rfl); (case hr => exact zH119); intro gb317 hg w10 hbox hb; have n_ := zA_ (za (zu zG102 hb)) (zA_ (za (hbox)) (zA_ (zN1 w.heap.size hg (zq zG102)) (zN1 w.heap.size hg (zq zG102)))); clear HB; obtain ⟨HB, BK317, GW317, GE317⟩ := n_; clear hb hbox hg; obtain ⟨hcz11_0, hcz11_1, hcz11_2, hfz11_0, hfz11_1, hfz11_2⟩ := zB3 BK317.out)); go_upto_region 7 with (first | ((with_reducible refine gate_dst (N := 6) rfl ?_); refine box_event ?hg (N := 6) ?hd (cs := #[.string (⟨#[]⟩ : ByteArray), .int .i64 0, .slice none 0 0]) (t := 58) ?hr ?_; (case hd => rfl); (case hg => rfl); (case hr => exact zH119); intro gb317 hg w10 hbox hb; have n_ := zA_ (za (zu zG102 hb)) (zA_ (za (hbox)) (zA_ (zN1 w.heap.size hg (zq zG102)) (zN1 w.heap.size hg (zq zG102)))); clear HB; obtain ⟨HB, BK317, GW317, GE317⟩ := n_; clear hb hbox hg; obtain ⟨hcz11_0, hcz11_1, hcz11_2, hfz11_0, hfz11_1, hfz11_2⟩ := zB3 BK317.out)))
     (try simp only [Act.put, List.setIfInBounds_toArray, List.set_cons_zero, List.set_cons_succ])
     go_cut [41] (fun v41 wc => ∃ (kq : Nat) (x41_8 : Bool), v41 = .bool x41_8 ∧ Aside0 (spec_SourcesOK.j2 kq l0 x5_2 x41_8 ((rd_T58 l0 x5_2).f0) ((rd_T58 l0 x5_2).f1) ((rd_T58 l0 x5_2).f2) = some r) ∧ Aside0 (kq ≤ k2) ∧ Aside0 (wc.heap[gb317]? = some (.cells #[.string ((rd_T58 l0 x5_2).f0), .int .i64 ((rd_T58 l0 x5_2).f1), (.slice A316_2 ((rd_T58 l0 x5_2).f2).length c316_2)] 58 (0, 0))) ∧ Aside0 (Below w.heap.size w wc))
     case first =>
      have H := HC9.out
      clear HC9
      replace H := Option.bind_eq_some_iff.mp H
      obtain ⟨t318, A120, H⟩ := H
      replace H : (if t318 = true then ((spec_l01In.f ((rd_T58 l0 x5_2).f1) 0 1000000).bind fun t319 => (if t319 = true then ((spec_l23Stock.f k2 ((rd_T58 l0 x5_2).f2) 12 0).bind fun t320 => (spec_SourcesOK.j2 k2 l0 x5_2 (!t320) ((rd_T58 l0 x5_2).f0) ((rd_T58 l0 x5_2).f1) ((rd_T58 l0 x5_2).f2))) else (spec_SourcesOK.j2 k2 l0 x5_2 true ((rd_T58 l0 x5_2).f0) ((rd_T58 l0 x5_2).f1) ((rd_T58 l0 x5_2).f2)))) else (spec_SourcesOK.j2 k2 l0 x5_2 true ((rd_T58 l0 x5_2).f0) ((rd_T58 l0 x5_2).f1) ((rd_T58 l0 x5_2).f2))) = some r := H
      have A12 := za A120
      clear A120
      by_cases c13 : t318 = true
      rotate_left
      ·replace c13 := Bool.eq_false_iff.mpr c13
       subst c13
       have H1 : (spec_SourcesOK.j2 k2 l0 x5_2 true ((rd_T58 l0 x5_2).f0) ((rd_T58 l0 x5_2).f1) ((rd_T58 l0 x5_2).f2)) = some r := by rw [if_neg (show ¬ (false = true) by decide)] at H; exact H
       clear H
       have H := H1
       clear H1
       have H' := za H
       clear H
       obtain ⟨hcz19_0, hcz19_1, hcz19_2, hfz19_0, hfz19_1, hfz19_2⟩ := zB3 BK317.out
       go_wp2_with (first | (go_at_call 134; (with_reducible refine (spec_NameOK.calls k2 ((rd_T58 l0 x5_2).f0) false _ A12.out).mono ?_); rintro e w' ⟨rfl, ⟨nd, rfl⟩⟩; (try first | exact ⟨rfl, _, World.drewN_drewN _ _ _⟩ | exact ⟨rfl, _, Eq.trans (World.drewN_drewN _ _ _) (congrArg (World.drewN _) (Nat.add_assoc _ _ _))⟩)))
       repeat (go_quiet (first | (go_at_call 134; (with_reducible refine (spec_NameOK.calls k2 ((rd_T58 l0 x5_2).f0) false _ A12.out).mono ?_); rintro e w' ⟨rfl, ⟨nd, rfl⟩⟩; (try first | exact ⟨rfl, _, World.drewN_drewN _ _ _⟩ | exact ⟨rfl, _, Eq.trans (World.drewN_drewN _ _ _) (congrArg (World.drewN _) (Nat.add_assoc _ _ _))⟩))); try go_wp2_with (first | (go_at_call 134; (with_reducible refine (spec_NameOK.calls k2 ((rd_T58 l0 x5_2).f0) false _ A12.out).mono ?_); rintro e w' ⟨rfl, ⟨nd, rfl⟩⟩; (try first | exact ⟨rfl, _, World.drewN_drewN _ _ _⟩ | exact ⟨rfl, _, Eq.trans (World.drewN_drewN _ _ _) (congrArg (World.drewN _) (Nat.add_assoc _ _ _))⟩))))
       go_meet
       case rel => exact ⟨_, (true), zG127, H', ⟨zH114⟩, ⟨zH0⟩, ⟨zH84⟩⟩
      subst c13
      have H1 : ((spec_l01In.f ((rd_T58 l0 x5_2).f1) 0 1000000).bind fun t319 => (if t319 = true then ((spec_l23Stock.f k2 ((rd_T58 l0 x5_2).f2) 12 0).bind fun t320 => (spec_SourcesOK.j2 k2 l0 x5_2 (!t320) ((rd_T58 l0 x5_2).f0) ((rd_T58 l0 x5_2).f1) ((rd_T58 l0 x5_2).f2))) else (spec_SourcesOK.j2 k2 l0 x5_2 true ((rd_T58 l0 x5_2).f0) ((rd_T58 l0 x5_2).f1) ((rd_T58 l0 x5_2).f2)))) = some r := by rw [if_pos rfl] at H; exact H
      clear H
      have H := H1
      clear H1
      replace H := Option.bind_eq_some_iff.mp H
      obtain ⟨t319, A140, H⟩ := H
      replace H : (if t319 = true then ((spec_l23Stock.f k2 ((rd_T58 l0 x5_2).f2) 12 0).bind fun t320 => (spec_SourcesOK.j2 k2 l0 x5_2 (!t320) ((rd_T58 l0 x5_2).f0) ((rd_T58 l0 x5_2).f1) ((rd_T58 l0 x5_2).f2))) else (spec_SourcesOK.j2 k2 l0 x5_2 true ((rd_T58 l0 x5_2).f0) ((rd_T58 l0 x5_2).f1) ((rd_T58 l0 x5_2).f2))) = some r := H
      have A14 := za A140
      clear A140
      by_cases c15 : t319 = true
      rotate_left
      ·replace c15 := Bool.eq_false_iff.mpr c15
       subst c15
       have H1 : (spec_SourcesOK.j2 k2 l0 x5_2 true ((rd_T58 l0 x5_2).f0) ((rd_T58 l0 x5_2).f1) ((rd_T58 l0 x5_2).f2)) = some r := by rw [if_neg (show ¬ (false = true) by decide)] at H; exact H
       clear H
       have H := H1
       clear H1
       have H' := za H
       clear H
       obtain ⟨hcz18_0, hcz18_1, hcz18_2, hfz18_0, hfz18_1, hfz18_2⟩ := zB3 BK317.out
       go_wp2_with (first | (go_at_call 134; (with_reducible refine (spec_NameOK.calls k2 ((rd_T58 l0 x5_2).f0) true _ A12.out).mono ?_); rintro e w' ⟨rfl, ⟨nd, rfl⟩⟩; (try first | exact ⟨rfl, _, World.drewN_drewN _ _ _⟩ | exact ⟨rfl, _, Eq.trans (World.drewN_drewN _ _ _) (congrArg (World.drewN _) (Nat.add_assoc _ _ _))⟩)) | (go_at_call 122; (with_reducible refine (spec_l01In.calls ((rd_T58 l0 x5_2).f1) 0 1000000 false _ A14.out).mono ?_); rintro e w' ⟨rfl, ⟨nd, rfl⟩⟩; (try first | exact ⟨rfl, _, World.drewN_drewN _ _ _⟩ | exact ⟨rfl, _, Eq.trans (World.drewN_drewN _ _ _) (congrArg (World.drewN _) (Nat.add_assoc _ _ _))⟩)))
       repeat (go_quiet (first | (go_at_call 134; (with_reducible refine (spec_NameOK.calls k2 ((rd_T58 l0 x5_2).f0) true _ A12.out).mono ?_); rintro e w' ⟨rfl, ⟨nd, rfl⟩⟩; (try first | exact ⟨rfl, _, World.drewN_drewN _ _ _⟩ | exact ⟨rfl, _, Eq.trans (World.drewN_drewN _ _ _) (congrArg (World.drewN _) (Nat.add_assoc _ _ _))⟩)) | (go_at_call 122; (with_reducible refine (spec_l01In.calls ((rd_T58 l0 x5_2).f1) 0 1000000 false _ A14.out).mono ?_); rintro e w' ⟨rfl, ⟨nd, rfl⟩⟩; (try first | exact ⟨rfl, _, World.drewN_drewN _ _ _⟩ | exact ⟨rfl, _, Eq.trans (World.drewN_drewN _ _ _) (congrArg (World.drewN _) (Nat.add_assoc _ _ _))⟩))); try go_wp2_with (first | (go_at_call 134; (with_reducible refine (spec_NameOK.calls k2 ((rd_T58 l0 x5_2).f0) true _ A12.out).mono ?_); rintro e w' ⟨rfl, ⟨nd, rfl⟩⟩; (try first | exact ⟨rfl, _, World.drewN_drewN _ _ _⟩ | exact ⟨rfl, _, Eq.trans (World.drewN_drewN _ _ _) (congrArg (World.drewN _) (Nat.add_assoc _ _ _))⟩)) | (go_at_call 122; (with_reducible refine (spec_l01In.calls ((rd_T58 l0 x5_2).f1) 0 1000000 false _ A14.out).mono ?_); rintro e w' ⟨rfl, ⟨nd, rfl⟩⟩; (try first | exact ⟨rfl, _, World.drewN_drewN _ _ _⟩ | exact ⟨rfl, _, Eq.trans (World.drewN_drewN _ _ _) (congrArg (World.drewN _) (Nat.add_assoc _ _ _))⟩))))
       go_meet
       case rel => exact ⟨_, (true), zG127, H', ⟨zH114⟩, ⟨zH0⟩, ⟨zH84⟩⟩
      subst c15
      have H1 : ((spec_l23Stock.f k2 ((rd_T58 l0 x5_2).f2) 12 0).bind fun t320 => (spec_SourcesOK.j2 k2 l0 x5_2 (!t320) ((rd_T58 l0 x5_2).f0) ((rd_T58 l0 x5_2).f1) ((rd_T58 l0 x5_2).f2))) = some r := by rw [if_pos rfl] at H; exact H
      clear H
      have H := H1
      clear H1
      replace H := Option.bind_eq_some_iff.mp H
      obtain ⟨t320, A160, H⟩ := H
      replace H : (spec_SourcesOK.j2 k2 l0 x5_2 (!t320) ((rd_T58 l0 x5_2).f0) ((rd_T58 l0 x5_2).f1) ((rd_T58 l0 x5_2).f2)) = some r := H
      have A16 := za A160
      clear A160
      have H' := za H
      clear H
      obtain ⟨hcz17_0, hcz17_1, hcz17_2, hfz17_0, hfz17_1, hfz17_2⟩ := zB3 BK317.out
      go_wp2_with (first | (go_at_call 134; (with_reducible refine (spec_NameOK.calls k2 ((rd_T58 l0 x5_2).f0) true _ A12.out).mono ?_); rintro e w' ⟨rfl, ⟨nd, rfl⟩⟩; (try first | exact ⟨rfl, _, World.drewN_drewN _ _ _⟩ | exact ⟨rfl, _, Eq.trans (World.drewN_drewN _ _ _) (congrArg (World.drewN _) (Nat.add_assoc _ _ _))⟩)) | (go_at_call 122; (with_reducible refine (spec_l01In.calls ((rd_T58 l0 x5_2).f1) 0 1000000 true _ A14.out).mono ?_); rintro e w' ⟨rfl, ⟨nd, rfl⟩⟩; (try first | exact ⟨rfl, _, World.drewN_drewN _ _ _⟩ | exact ⟨rfl, _, Eq.trans (World.drewN_drewN _ _ _) (congrArg (World.drewN _) (Nat.add_assoc _ _ _))⟩)) | (go_at_call 133; (with_reducible refine (spec_l23Stock.calls k2 _ _ ((rd_T58 l0 x5_2).f2) 12 0 t320 _ ?side1 ?side2 A16.out).mono ?_); (case side1 => exact zH57); (case side2 => exact HC316_2.out); rintro e w' ⟨rfl, ⟨nd, rfl⟩⟩; (try first | exact ⟨rfl, _, World.drewN_drewN _ _ _⟩ | exact ⟨rfl, _, Eq.trans (World.drewN_drewN _ _ _) (congrArg (World.drewN _) (Nat.add_assoc _ _ _))⟩)))
      repeat (go_quiet (first | (go_at_call 134; (with_reducible refine (spec_NameOK.calls k2 ((rd_T58 l0 x5_2).f0) true _ A12.out).mono ?_); rintro e w' ⟨rfl, ⟨nd, rfl⟩⟩; (try first | exact ⟨rfl, _, World.drewN_drewN _ _ _⟩ | exact ⟨rfl, _, Eq.trans (World.drewN_drewN _ _ _) (congrArg (World.drewN _) (Nat.add_assoc _ _ _))⟩)) | (go_at_call 122; (with_reducible refine (spec_l01In.calls ((rd_T58 l0 x5_2).f1) 0 1000000 true _ A14.out).mono ?_); rintro e w' ⟨rfl, ⟨nd, rfl⟩⟩; (try first | exact ⟨rfl, _, World.drewN_drewN _ _ _⟩ | exact ⟨rfl, _, Eq.trans (World.drewN_drewN _ _ _) (congrArg (World.drewN _) (Nat.add_assoc _ _ _))⟩)) | (go_at_call 133; (with_reducible refine (spec_l23Stock.calls k2 _ _ ((rd_T58 l0 x5_2).f2) 12 0 t320 _ ?side1 ?side2 A16.out).mono ?_); (case side1 => exact zH57); (case side2 => exact HC316_2.out); rintro e w' ⟨rfl, ⟨nd, rfl⟩⟩; (try first | exact ⟨rfl, _, World.drewN_drewN _ _ _⟩ | exact ⟨rfl, _, Eq.trans (World.drewN_drewN _ _ _) (congrArg (World.drewN _) (Nat.add_assoc _ _ _))⟩))); try go_wp2_with (first | (go_at_call 134; (with_reducible refine (spec_NameOK.calls k2 ((rd_T58 l0 x5_2).f0) true _ A12.out).mono ?_); rintro e w' ⟨rfl, ⟨nd, rfl⟩⟩; (try first | exact ⟨rfl, _, World.drewN_drewN _ _ _⟩ | exact ⟨rfl, _, Eq.trans (World.drewN_drewN _ _ _) (congrArg (World.drewN _) (Nat.add_assoc _ _ _))⟩)) | (go_at_call 122; (with_reducible refine (spec_l01In.calls ((rd_T58 l0 x5_2).f1) 0 1000000 true _ A14.out).mono ?_); rintro e w' ⟨rfl, ⟨nd, rfl⟩⟩; (try first | exact ⟨rfl, _, World.drewN_drewN _ _ _⟩ | exact ⟨rfl, _, Eq.trans (World.drewN_drewN _ _ _) (congrArg (World.drewN _) (Nat.add_assoc _ _ _))⟩)) | (go_at_call 133; (with_reducible refine (spec_l23Stock.calls k2 _ _ ((rd_T58 l0 x5_2).f2) 12 0 t320 _ ?side1 ?side2 A16.out).mono ?_); (case side1 => exact zH57); (case side2 => exact HC316_2.out); rintro e w' ⟨rfl, ⟨nd, rfl⟩⟩; (try first | exact ⟨rfl, _, World.drewN_drewN _ _ _⟩ | exact ⟨rfl, _, Eq.trans (World.drewN_drewN _ _ _) (congrArg (World.drewN _) (Nat.add_assoc _ _ _))⟩))))
      go_meet
      case rel => exact ⟨_, (!t320), zG127, H', ⟨zH114⟩, ⟨zH0⟩, ⟨zH84⟩⟩
     case rest =>
      clear HC9
      try clear c1
      try clear c4
      try clear c4b0
      try clear c4b1
      try clear c6
      try clear c7
      try clear c7b0
      try clear c8
      try clear c8b0
      try clear c13
      try clear c15
      try clear hcz11_0
      try clear hcz11_1
      try clear hcz11_2
      try clear hcz17_0
      try clear hcz17_1
      try clear hcz17_2
      try clear hcz18_0
      try clear hcz18_1
      try clear hcz18_2
      try clear hcz19_0
      try clear hcz19_1
      try clear hcz19_2
      try clear hfz11_0
      try clear hfz11_1
      try clear hfz11_2
      try clear hfz17_0
      try clear hfz17_1
      try clear hfz17_2
      try clear hfz18_0
      try clear hfz18_1
      try clear hfz18_2
      try clear hfz19_0
      try clear hfz19_1
      try clear hfz19_2
      try clear hx316_0
      try clear hx316_1
      try clear hx316_2
      try clear p316
      try clear q316
      obtain ⟨kq, x41_8, rfl, HA, HJ8, BK317, HB⟩ := hcut
      cases kq with
      | zero => exact absurd HA.out (by simp [spec_SourcesOK.j2])
      | succ kj8 =>
       have H := HA.out
       clear HA
       simp only [spec_SourcesOK.j2] at H
       by_cases c20 : x41_8 = true
       ·subst c20
        have H1 : (some false) = some r := by rw [if_pos rfl] at H; exact H
        clear H
        have H := H1
        clear H1
        obtain rfl := Option.some.inj H
        go_wp2
        repeat (go_quiet (fail); try go_wp2)
        go_ret
        exact zH28
       replace c20 := Bool.eq_false_iff.mpr c20
       subst c20
       have H1 : (spec_SourcesOK.l1 kj8 l0 x5_2 0 ((rd_T58 l0 x5_2).f0) ((rd_T58 l0 x5_2).f1) ((rd_T58 l0 x5_2).f2)) = some r := by rw [if_neg (show ¬ (false = true) by decide)] at H; exact H
       clear H
       have H := H1
       clear H1
       have H' := za H
       clear H
       go_wp2
       repeat (go_quiet (fail); try go_wp2)
       go_loopg [7] kj8 (fun kq v7 w' => ∃ (x7_4 : Int), v7 = .int .i64 x7_4 ∧ Aside0 (spec_SourcesOK.l1 kq l0 x5_2 x7_4 ((rd_T58 l0 x5_2).f0) ((rd_T58 l0 x5_2).f1) ((rd_T58 l0 x5_2).f2) = some r) ∧ Aside0 (kq ≤ kj8) ∧ Aside0 (w'.heap[gb317]? = some (.cells #[.string ((rd_T58 l0 x5_2).f0), .int .i64 ((rd_T58 l0 x5_2).f1), (.slice A316_2 ((rd_T58 l0 x5_2).f2).length c316_2)] 58 (0, 0))) ∧ Aside0 (Below w.heap.size w w'))
       case atStart => exact ⟨(0), zG127, H', ⟨Nat.le_refl _⟩, ⟨by (with_reducible repeat (first | refine zc ?_ _ | refine zd ?_ | refine zb ?_ _)); exact BK317.out⟩, ⟨zH84⟩⟩
       case round =>
        clear H'
        try clear c1
        try clear c4
        try clear c4b0
        try clear c4b1
        try clear c6
        try clear c7
        try clear c7b0
        try clear c8
        try clear c8b0
        try clear c13
        try clear c15
        try clear c20
        try clear hcz11_0
        try clear hcz11_1
        try clear hcz11_2
        try clear hcz17_0
        try clear hcz17_1
        try clear hcz17_2
        try clear hcz18_0
        try clear hcz18_1
        try clear hcz18_2
        try clear hcz19_0
        try clear hcz19_1
        try clear hcz19_2
        try clear hfz11_0
        try clear hfz11_1
        try clear hfz11_2
        try clear hfz17_0
        try clear hfz17_1
        try clear hfz17_2
        try clear hfz18_0
        try clear hfz18_1
        try clear hfz18_2
        try clear hfz19_0
        try clear hfz19_1
        try clear hfz19_2
        try clear hx316_0
        try clear hx316_1
        try clear hx316_2
        try clear p316
        try clear q316
        obtain ⟨x7_4, rfl, HA, HK4, BK317, HB⟩ := hrel
        cases gk with
        | zero => exact absurd HA.out (by simp [spec_SourcesOK.l1])
        | succ k4 =>
         have H := HA.out
         clear HA
         simp only [spec_SourcesOK.l1] at H
         by_cases c21 : x7_4 < x5_2
         rotate_left
         ·rw [if_neg c21] at H
          have c21b0 := decide_eq_false c21
          clear c21
          have H' := za H
          clear H
          go_wp2
          repeat (go_quiet (fail); try go_wp2)
          go_roundg k4
          case measure => have := HJ2.out; have := HK2.out; have := HJ8.out; have := HK4.out; omega
          case rel => exact ⟨(wrap64 (x5_2 + 1)), zG127, H', ⟨by have := HJ2.out; have := HK2.out; have := HJ8.out; have := HK4.out; omega⟩, ⟨zH84⟩⟩
         rw [if_pos c21] at H
         have c21b0 := decide_eq_true c21
         clear c21
         by_cases c22 : 0 ≤ x7_4
         rotate_left
         ·rw [if_neg c22] at H
          exact absurd H (by simp)
         rw [if_pos c22] at H
         have c22b0 := decide_eq_true c22
         clear c22
         by_cases c23 : x7_4 < (l0.length : Int)
         rotate_left
         ·rw [if_neg c23] at H
          exact absurd H (by simp)
         rw [if_pos c23] at H
         have c23b0 := decide_eq_true c23
         clear c23
         by_cases c24 : ((rd_T58 l0 x7_4).f0).toList = ((rd_T58 l0 x5_2).f0).toList
         ·rw [if_pos c24] at H
          have c24b0 : (((rd_T58 l0 x7_4).f0).toList == ((rd_T58 l0 x5_2).f0).toList) = true := beq_iff_eq.mpr c24
          have c24b1 : (((rd_T58 l0 x7_4).f0).toList != ((rd_T58 l0 x5_2).f0).toList) = false := bne_eq_false_iff_eq.mpr c24
          clear c24
          obtain rfl := Option.some.inj H
          have p321 : 0 ≤ (x7_4 : Int) := zO
          have q321 : x7_4 < (l0.length : Int) := zO
          obtain ⟨ad321, A321_2, c321_2, e321, hx321_0, hx321_1, hx321_2, hl321_2, hi321_2⟩ := at_T58 HR0.out x7_4 p321 q321
          obtain rfl : ad316 = ad321 := (by injection e321)
          replace hx321_0 := (HB.out.cell (zn w _ hx321_0)).trans hx321_0
          replace hx321_1 := (HB.out.cell (zn w _ hx321_1)).trans hx321_1
          replace hx321_2 := (HB.out.cell (zn w _ hx321_2)).trans hx321_2
          obtain ⟨HR321_2, HC321_2⟩ := zD2 hi321_2 hl321_2
          clear hi321_2 hl321_2
          replace p321 := eq_true p321
          replace q321 := eq_true q321
          obtain ⟨hcz25_0, hcz25_1, hcz25_2, hfz25_0, hfz25_1, hfz25_2⟩ := zB3 BK317.out
          go_wp2
          repeat (go_quiet (fail); try go_wp2)
          go_ret
          exact zH28
         rw [if_neg c24] at H
         have c24b0 : (((rd_T58 l0 x7_4).f0).toList == ((rd_T58 l0 x5_2).f0).toList) = false := beq_eq_false_iff_ne.mpr c24
         have c24b1 : (((rd_T58 l0 x7_4).f0).toList != ((rd_T58 l0 x5_2).f0).toList) = true := bne_iff_ne.mpr c24
         have H' := za H
         clear H
         have p321 : 0 ≤ (x7_4 : Int) := zO
         have q321 : x7_4 < (l0.length : Int) := zO
         obtain ⟨ad321, A321_2, c321_2, e321, hx321_0, hx321_1, hx321_2, hl321_2, hi321_2⟩ := at_T58 HR0.out x7_4 p321 q321
         obtain rfl : ad316 = ad321 := (by injection e321)
         replace hx321_0 := (HB.out.cell (zn w _ hx321_0)).trans hx321_0
         replace hx321_1 := (HB.out.cell (zn w _ hx321_1)).trans hx321_1
         replace hx321_2 := (HB.out.cell (zn w _ hx321_2)).trans hx321_2
         obtain ⟨HR321_2, HC321_2⟩ := zD2 hi321_2 hl321_2
         clear hi321_2 hl321_2
         replace p321 := eq_true p321
         replace q321 := eq_true q321
         obtain ⟨hcz26_0, hcz26_1, hcz26_2, hfz26_0, hfz26_1, hfz26_2⟩ := zB3 BK317.out
         go_wp2
         repeat (go_quiet (fail); try go_wp2)
         go_roundg k4
         case measure => have := HJ2.out; have := HK2.out; have := HJ8.out; have := HK4.out; omega
         case rel => exact ⟨(wrap64 (x7_4 + 1)), zG127, H', ⟨by have := HJ2.out; have := HK2.out; have := HJ8.out; have := HK4.out; omega⟩, ⟨by (with_reducible repeat (first | refine zc ?_ _ | refine zd ?_ | refine zb ?_ _)); exact BK317.out⟩, ⟨zH84⟩⟩
/-! ### spec_l23Has: function 136 -/
def spec_l23Has.l0 : Nat → Int → ByteArray → Int → List (S124) → ByteArray → Int → Option (Bool)
 | 0, _, _, _, _, _, _ => none
 | k + 1, x5, x323000, x323001, x323002, x324000, x324001 => if x5 < (x323002.length : Int) then (if 0 ≤ x5 then (if ((rd_T124 x323002 x5).f0).toList = x324000.toList then (some (decide (((rd_T124 x323002 x5).f1) ≥ x324001))) else (spec_l23Has.l0 k (wrap64 (x5 + 1)) x323000 x323001 x323002 x324000 x324001)) else (none)) else (some false)
def spec_l23Has.f (k : Nat) (a0_0 : ByteArray) (a0_1 : Int) (l0_2 : List (S124)) (a1_0 : ByteArray) (a1_1 : Int) : Option (Bool) := spec_l23Has.l0 k 0 a0_0 a0_1 l0_2 a1_0 a1_1
theorem spec_l23Has.mono_l : ∀ k, (∀ y0 y1 y2 y3 y4 y5, LeO (spec_l23Has.l0 k y0 y1 y2 y3 y4 y5) (spec_l23Has.l0 (k + 1) y0 y1 y2 y3 y4 y5))
 | 0 => fun _ _ _ _ _ _ r h => by simp [spec_l23Has.l0] at h
 | k + 1 => by
  have ih0 := spec_l23Has.mono_l k
  ·intro y0 y1 y2 y3 y4 y5
   unfold spec_l23Has.l0
   repeat' first
   | (with_reducible exact ih0 _ _ _ _ _ _)
   | (with_reducible exact LeO.refl _)
   | (with_reducible exact LeO.none _)
   | (with_reducible refine LeO.ite ?_ ?_)
   | (with_reducible refine LeO.bind ?_ (fun _ => ?_))
   | exact ih0 _ _ _ _ _ _
   | exact LeO.none _
   | refine LeO.ite ?_ ?_
   | refine LeO.bind ?_ (fun _ => ?_)
theorem spec_l23Has.mono : ∀ a0 a1 a2 a3 a4 k, LeO (spec_l23Has.f k a0 a1 a2 a3 a4) (spec_l23Has.f (k + 1) a0 a1 a2 a3 a4) := by
 intro a0 a1 a2 a3 a4 k
 have ih0 := spec_l23Has.mono_l k
 unfold spec_l23Has.f
 repeat' first
   | (with_reducible exact ih0 _ _ _ _ _ _)
   | (with_reducible exact LeO.refl _)
   | (with_reducible exact LeO.none _)
   | (with_reducible refine LeO.ite ?_ ?_)
   | (with_reducible refine LeO.bind ?_ (fun _ => ?_))
   | exact ih0 _ _ _ _ _ _
   | exact LeO.none _
   | refine LeO.ite ?_ ?_
   | refine LeO.bind ?_ (fun _ => ?_)
set_option maxHeartbeats 64000000 in
set_option maxRecDepth 100000 in
theorem spec_l23Has.calls (k : Nat) (a0_0 : ByteArray) (a0_1 : Int) (A0_2 : Option Addr) (c0_2 : Nat) (l0_2 : List (S124)) (a1_0 : ByteArray) (a1_1 : Int) (r : Bool) (w : World) (hr0_2 : Kd.C k124 w A0_2 l0_2.length l0_2) (hc0_2 : l0_2.length ≤ c0_2) (h : spec_l23Has.f k a0_0 a0_1 l0_2 a1_0 a1_1 = some r) :
  Calls Try.prog 136 #[.agg #[.string a0_0, .int .i64 a0_1, .slice A0_2 l0_2.length c0_2], .agg #[.string a1_0, .int .i64 a1_1]] w fun e w' => e = .returned (.bool r) ∧ Below w.heap.size w w' := by
 have hu58 := Try.underlying58
 have hu124 := Try.underlying124
 obtain ⟨HR0_2, HC0_2, HB⟩ := zD3 hr0_2 hc0_2 (Below.refl w.heap.size w)
 clear hr0_2 hc0_2
 have H : (spec_l23Has.l0 k 0 a0_0 a0_1 l0_2 a1_0 a1_1) = some r := h
 clear h
 have H' := za H
 clear H
 go_enter Try.func136, Try.ntmps136
 go_wp2_with (first | ((with_reducible refine gate_dst (N := 2) rfl ?_); refine box_event ?hg (N := 2) ?hd (cs := #[.string a0_0, .int .i64 a0_1, .slice A0_2 l0_2.length c0_2]) (t := 58) ?hr ?_; (case hd => rfl); (case hg => rfl); (case hr => exact zH119); intro gb322 hg w3 hbox hb; have n_ := zA_ (za (zu zG102 hb)) (zA_ (za (hbox)) (zA_ (zN1 w.heap.size hg (zq zG102)) (zN1 w.heap.size hg (zq zG102)))); clear HB; obtain ⟨HB, BK322, GW322, GE322⟩ := n_; clear hb hbox hg) | ((with_reducible refine gate_dst (N := 3) rfl ?_); refine box_event ?hg (N := 3) ?hd (cs := #[.string a1_0, .int .i64 a1_1]) (t := 124) ?hr ?_; (case hd => rfl); (case hg => rfl); (case hr => exact zH119); intro gb323 hg w4 hbox hb; have n_ := zA_ (za (zp (g := gb322) (o := .cells #[.string a0_0, .int .i64 a0_1, .slice A0_2 l0_2.length c0_2] 58 (0, 0)) zK227 hb)) (zA_ (za (zu zK211 hb)) (zA_ (za (hbox)) (zA_ (zN1 w.heap.size hg (zq zK211)) (zA_ (zN1 w.heap.size hg (zq zK211)) (zN2 hg (zz (g := gb322) (o := .cells #[.string a0_0, .int .i64 a0_1, .slice A0_2 l0_2.length c0_2] 58 (0, 0)) zK227)))))); clear BK322 HB; obtain ⟨BK322, HB, BK323, GW323, GE323, NB322_323, NB323_322⟩ := n_; clear hb hbox hg))
 repeat (go_quiet (first | ((with_reducible refine gate_dst (N := 2) rfl ?_); refine box_event ?hg (N := 2) ?hd (cs := #[.string a0_0, .int .i64 a0_1, .slice A0_2 l0_2.length c0_2]) (t := 58) ?hr ?_; (case hd => rfl); (case hg => rfl); (case hr => exact zH119); intro gb322 hg w3 hbox hb; have n_ := zA_ (za (zu zG102 hb)) (zA_ (za (hbox)) (zA_ (zN1 w.heap.size hg (zq zG102)) (zN1 w.heap.size hg (zq zG102)))); clear HB; obtain ⟨HB, BK322, GW322, GE322⟩ := n_; clear hb hbox hg) | ((with_reducible refine gate_dst (N := 3) rfl ?_); refine box_event ?hg (N := 3) ?hd (cs := #[.string a1_0, .int .i64 a1_1]) (t := 124) ?hr ?_; (case hd => rfl); (case hg => rfl); (case hr => exact zH119); intro gb323 hg w4 hbox hb; have n_ := zA_ (za (zp (g := gb322) (o := .cells #[.string a0_0, .int .i64 a0_1, .slice A0_2 l0_2.length c0_2] 58 (0, 0)) zK227 hb)) (zA_ (za (zu zK211 hb)) (zA_ (za (hbox)) (zA_ (zN1 w.heap.size hg (zq zK211)) (zA_ (zN1 w.heap.size hg (zq zK211)) (zN2 hg (zz (g := gb322) (o := .cells #[.string a0_0, .int .i64 a0_1, .slice A0_2 l0_2.length c0_2] 58 (0, 0)) zK227)))))); clear BK322 HB; obtain ⟨BK322, HB, BK323, GW323, GE323, NB322_323, NB323_322⟩ := n_; clear hb hbox hg)); try go_wp2_with (first | ((with_reducible refine gate_dst (N := 2) rfl ?_); refine box_event ?hg (N := 2) ?hd (cs := #[.string a0_0, .int .i64 a0_1, .slice A0_2 l0_2.length c0_2]) (t := 58) ?hr ?_; (case hd => rfl); (case hg => rfl); (case hr => exact zH119); intro gb322 hg w3 hbox hb; have n_ := zA_ (za (zu zG102 hb)) (zA_ (za (hbox)) (zA_ (zN1 w.heap.size hg (zq zG102)) (zN1 w.heap.size hg (zq zG102)))); clear HB; obtain ⟨HB, BK322, GW322, GE322⟩ := n_; clear hb hbox hg) | ((with_reducible refine gate_dst (N := 3) rfl ?_); refine box_event ?hg (N := 3) ?hd (cs := #[.string a1_0, .int .i64 a1_1]) (t := 124) ?hr ?_; (case hd => rfl); (case hg => rfl); (case hr => exact zH119); intro gb323 hg w4 hbox hb; have n_ := zA_ (za (zp (g := gb322) (o := .cells #[.string a0_0, .int .i64 a0_1, .slice A0_2 l0_2.length c0_2] 58 (0, 0)) zK227 hb)) (zA_ (za (zu zK211 hb)) (zA_ (za (hbox)) (zA_ (zN1 w.heap.size hg (zq zK211)) (zA_ (zN1 w.heap.size hg (zq zK211)) (zN2 hg (zz (g := gb322) (o := .cells #[.string a0_0, .int .i64 a0_1, .slice A0_2 l0_2.length c0_2] 58 (0, 0)) zK227)))))); clear BK322 HB; obtain ⟨BK322, HB, BK323, GW323, GE323, NB322_323, NB323_322⟩ := n_; clear hb hbox hg)))
 go_loopg [5] k (fun kq v5 w' => ∃ (x5_1 : Int), v5 = .int .i64 x5_1 ∧ Aside0 (spec_l23Has.l0 kq x5_1 a0_0 a0_1 l0_2 a1_0 a1_1 = some r) ∧ Aside0 (kq ≤ k) ∧ Aside0 (w'.heap[gb322]? = some (.cells #[.string a0_0, .int .i64 a0_1, (.slice A0_2 l0_2.length c0_2)] 58 (0, 0))) ∧ Aside0 (w'.heap[gb323]? = some (.cells #[.string a1_0, .int .i64 a1_1] 124 (0, 0))) ∧ Aside0 (Below w.heap.size w w'))
 case atStart => exact ⟨(0), zG127, H', ⟨Nat.le_refl _⟩, ⟨by (with_reducible repeat (first | refine zc ?_ _ | refine zd ?_ | refine zb ?_ _)); exact BK322.out⟩, ⟨by (with_reducible repeat (first | refine zc ?_ _ | refine zd ?_ | refine zb ?_ _)); exact BK323.out⟩, ⟨zH52⟩⟩
 case round =>
  clear H'
  obtain ⟨x5_1, rfl, HA, HK1, BK322, BK323, HB⟩ := hrel
  cases gk with
  | zero => exact absurd HA.out (by simp [spec_l23Has.l0])
  | succ k1 =>
   have H := HA.out
   clear HA
   simp only [spec_l23Has.l0] at H
   by_cases c5 : x5_1 < (l0_2.length : Int)
   rotate_left
   ·rw [if_neg c5] at H
    have c5b0 := decide_eq_false c5
    clear c5
    obtain rfl := Option.some.inj H
    have hnb14 := NB322_323.out
    have hnc14 := NB323_322.out
    obtain ⟨hcz15_0, hcz15_1, hcz15_2, hfz15_0, hfz15_1, hfz15_2⟩ := zB3 BK322.out
    go_wp2
    repeat (go_quiet (fail); try go_wp2)
    go_ret
    exact zH20

   rw [if_pos c5] at H
   have c5b0 := decide_eq_true c5
   clear c5
   by_cases c6 : 0 ≤ x5_1
   rotate_left
   ·rw [if_neg c6] at H
    exact absurd H (by simp)
   rw [if_pos c6] at H
   have c6b0 := decide_eq_true c6
   clear c6
   by_cases c7 : ((rd_T124 l0_2 x5_1).f0).toList = a1_0.toList
   rotate_left
   ·rw [if_neg c7] at H
    have c7b0 : (((rd_T124 l0_2 x5_1).f0).toList == a1_0.toList) = false := beq_eq_false_iff_ne.mpr c7
    have c7b1 : (((rd_T124 l0_2 x5_1).f0).toList != a1_0.toList) = true := bne_iff_ne.mpr c7
    have H' := za H
    clear H
    have hnb11 := NB322_323.out
    have hnc11 := NB323_322.out
    obtain ⟨hcz12_0, hcz12_1, hcz12_2, hfz12_0, hfz12_1, hfz12_2⟩ := zB3 BK322.out
    have p324 : 0 ≤ (x5_1 : Int) := zO
    have q324 : x5_1 < (l0_2.length : Int) := zO
    obtain ⟨ad324, e324, hx324_0, hx324_1⟩ := at_T124 HR0_2.out x5_1 p324 q324
    cases e324
    replace hx324_0 := (HB.out.cell (zn w _ hx324_0)).trans hx324_0
    replace hx324_1 := (HB.out.cell (zn w _ hx324_1)).trans hx324_1
    replace p324 := eq_true p324
    replace q324 := eq_true q324
    obtain ⟨hcz13_0, hcz13_1, hfz13_0, hfz13_1⟩ := zB2 BK323.out
    go_wp2
    repeat (go_quiet (fail); try go_wp2)
    go_roundg k1
    case measure => have := HK1.out; omega
    case rel => exact ⟨(wrap64 (x5_1 + 1)), zG127, H', ⟨zH124⟩, ⟨by (with_reducible repeat (first | refine zc ?_ _ | refine zd ?_ | refine zb ?_ _)); exact BK322.out⟩, ⟨by (with_reducible repeat (first | refine zc ?_ _ | refine zd ?_ | refine zb ?_ _)); exact BK323.out⟩, ⟨zH52⟩⟩
   rw [if_pos c7] at H
   have c7b0 : (((rd_T124 l0_2 x5_1).f0).toList == a1_0.toList) = true := beq_iff_eq.mpr c7
   have c7b1 : (((rd_T124 l0_2 x5_1).f0).toList != a1_0.toList) = false := bne_eq_false_iff_eq.mpr c7
   clear c7
   obtain rfl := Option.some.inj H
   have hnb8 := NB322_323.out
   have hnc8 := NB323_322.out
   obtain ⟨hcz9_0, hcz9_1, hcz9_2, hfz9_0, hfz9_1, hfz9_2⟩ := zB3 BK322.out
   have p324 : 0 ≤ (x5_1 : Int) := zO
   have q324 : x5_1 < (l0_2.length : Int) := zO
   obtain ⟨ad324, e324, hx324_0, hx324_1⟩ := at_T124 HR0_2.out x5_1 p324 q324
   cases e324
   replace hx324_0 := (HB.out.cell (zn w _ hx324_0)).trans hx324_0
   replace hx324_1 := (HB.out.cell (zn w _ hx324_1)).trans hx324_1
   replace p324 := eq_true p324
   replace q324 := eq_true q324
   obtain ⟨hcz10_0, hcz10_1, hfz10_0, hfz10_1⟩ := zB2 BK323.out
   have p325 : 0 ≤ (x5_1 : Int) := zO
   have q325 : x5_1 < (l0_2.length : Int) := zO
   obtain ⟨ad325, e325, hx325_0, hx325_1⟩ := at_T124 HR0_2.out x5_1 p325 q325
   obtain rfl : ad324 = ad325 := (by injection e325)
   replace hx325_0 := (HB.out.cell (zn w _ hx325_0)).trans hx325_0
   replace hx325_1 := (HB.out.cell (zn w _ hx325_1)).trans hx325_1
   replace p325 := eq_true p325
   replace q325 := eq_true q325
   go_wp2
   repeat (go_quiet (fail); try go_wp2)
   go_ret
   exact zH20
end Go.Proofs.Ytojncbpeeboooaa.X
