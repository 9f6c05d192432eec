-- squeezed
-- made by pp.py (wip/tools) out of the translation; Lean checks it
import Derived.Test.YtjibigpdbpipcaaL0
import Derived.Test.YtjibigpdbpipcaaL1
import Derived.Test.YtjibigpdbpipcaaL3
namespace Go.Proofs.Ytjibigpdbpipcaa.L
open Go.RowKit Go.Proofs.YtjibigpdbpipcaaW.PrintWords Go.Proofs.YtjibigpdbpipcaaW.PrintLast Go.Proofs.YtjibigpdbpipcaaW.PrintMore
attribute [local go_sem] max2_int min2_int max_two min_two max_three min_three max_four min_four   -- for this text's walks alone
set_option linter.unusedVariables false
set_option linter.unusedSimpArgs false


/-! ### spec_SourcesOK: function 36 -/
mutual
def spec_SourcesOK.j0 : Nat → List (S75) → Bool → Option (Bool)
 | 0, _, _ => none
 | k + 1, x0, x15 => if x15 = true then (some false) else (spec_SourcesOK.l0 k x0 0)
def spec_SourcesOK.l0 : Nat → List (S75) → Int → Option (Bool)
 | 0, _, _ => none
 | k + 1, x0, x5 => if x5 < (x0.length : Int) then (if 0 ≤ x5 then ((spec_NameOK.f k ((rd_T75 x0 x5).f0)).bind fun t119 => (if t119 = true then ((spec_l01In.f ((rd_T75 x0 x5).f1) 0 1000000).bind fun t120 => (if t120 = true then ((spec_l23Stock.f k ((rd_T75 x0 x5).f2) 12 0).bind fun t121 => (spec_SourcesOK.j2 k x0 x5 (!t121) ((rd_T75 x0 x5).f0) ((rd_T75 x0 x5).f1) ((rd_T75 x0 x5).f2))) else (spec_SourcesOK.j2 k x0 x5 true ((rd_T75 x0 x5).f0) ((rd_T75 x0 x5).f1) ((rd_T75 x0 x5).f2)))) else (spec_SourcesOK.j2 k x0 x5 true ((rd_T75 x0 x5).f0) ((rd_T75 x0 x5).f1) ((rd_T75 x0 x5).f2)))) else (none)) else (some true)
def spec_SourcesOK.j2 : Nat → List (S75) → Int → Bool → ByteArray → Int → List (S76) → Option (Bool)
 | 0, _, _, _, _, _, _ => none
 | k + 1, x0, x5, x41, x119000, x119001, x119002 => if x41 = true then (some false) else (spec_SourcesOK.l1 k x0 x5 0 x119000 x119001 x119002)
def spec_SourcesOK.l1 : Nat → List (S75) → Int → Int → ByteArray → Int → List (S76) → Option (Bool)
 | 0, _, _, _, _, _, _ => none
 | k + 1, x0, x5, x7, x119000, x119001, x119002 => if x7 < x5 then (if 0 ≤ x7 then (if x7 < (x0.length : Int) then (if ((rd_T75 x0 x7).f0).toList = x119000.toList then (some false) else (spec_SourcesOK.l1 k x0 x5 (wrap64 (x7 + 1)) x119000 x119001 x119002)) else (none)) else (none)) else (spec_SourcesOK.l0 k x0 (wrap64 (x5 + 1)))
end
def spec_SourcesOK.f (k : Nat) (l0 : List (S75)) (l1 : List (S76)) : Option (Bool) := if (l0.length : Int) > 6 then (spec_SourcesOK.j0 k l0 true) else ((spec_l23Stock.f k l1 5 1).bind fun t116 => (spec_SourcesOK.j0 k l0 (!t116)))
theorem spec_SourcesOK.mono_l : ∀ k, (∀ y0 y1, LeO (spec_SourcesOK.j0 k y0 y1) (spec_SourcesOK.j0 (k + 1) y0 y1)) ∧ (∀ y0 y1, LeO (spec_SourcesOK.l0 k y0 y1) (spec_SourcesOK.l0 (k + 1) y0 y1)) ∧ (∀ y0 y1 y2 y3 y4 y5, LeO (spec_SourcesOK.j2 k y0 y1 y2 y3 y4 y5) (spec_SourcesOK.j2 (k + 1) y0 y1 y2 y3 y4 y5)) ∧ (∀ y0 y1 y2 y3 y4 y5, LeO (spec_SourcesOK.l1 k y0 y1 y2 y3 y4 y5) (spec_SourcesOK.l1 (k + 1) y0 y1 y2 y3 y4 y5))
 | 0 => ⟨fun _ _ r h => by simp [spec_SourcesOK.j0] at h, fun _ _ r h => by simp [spec_SourcesOK.l0] at h, fun _ _ _ _ _ _ r h => by simp [spec_SourcesOK.j2] at h, fun _ _ _ _ _ _ r h => by simp [spec_SourcesOK.l1] at h⟩
 | k + 1 => by
  obtain ⟨ih0, ih1, ih2, ih3⟩ := spec_SourcesOK.mono_l k
  refine ⟨?_, ?_, ?_, ?_⟩
  ·intro y0 y1
   unfold spec_SourcesOK.j0
   repeat' first
   | (with_reducible exact ih0 _ _)
   | (with_reducible exact ih1 _ _)
   | (with_reducible exact ih2 _ _ _ _ _ _)
   | (with_reducible exact ih3 _ _ _ _ _ _)
   | (with_reducible exact spec_NameOK.mono _ _)
   | (with_reducible exact spec_l23Stock.mono _ _ _ _)
   | (with_reducible exact LeO.refl _)
   | (with_reducible exact LeO.none _)
   | (with_reducible refine LeO.ite ?_ ?_)
   | (with_reducible refine LeO.bind ?_ (fun _ => ?_))
   | exact ih0 _ _
   | exact ih1 _ _
   | exact ih2 _ _ _ _ _ _
   | exact ih3 _ _ _ _ _ _
   | exact spec_NameOK.mono _ _
   | exact spec_l23Stock.mono _ _ _ _
   | exact LeO.none _
   | refine LeO.ite ?_ ?_
   | refine LeO.bind ?_ (fun _ => ?_)
  ·intro y0 y1
   unfold spec_SourcesOK.l0
   repeat' first
   | (with_reducible exact ih0 _ _)
   | (with_reducible exact ih1 _ _)
   | (with_reducible exact ih2 _ _ _ _ _ _)
   | (with_reducible exact ih3 _ _ _ _ _ _)
   | (with_reducible exact spec_NameOK.mono _ _)
   | (with_reducible exact spec_l23Stock.mono _ _ _ _)
   | (with_reducible exact LeO.refl _)
   | (with_reducible exact LeO.none _)
   | (with_reducible refine LeO.ite ?_ ?_)
   | (with_reducible refine LeO.bind ?_ (fun _ => ?_))
   | exact ih0 _ _
   | exact ih1 _ _
   | exact ih2 _ _ _ _ _ _
   | exact ih3 _ _ _ _ _ _
   | exact spec_NameOK.mono _ _
   | exact spec_l23Stock.mono _ _ _ _
   | exact LeO.none _
   | refine LeO.ite ?_ ?_
   | refine LeO.bind ?_ (fun _ => ?_)
  ·intro y0 y1 y2 y3 y4 y5
   unfold spec_SourcesOK.j2
   repeat' first
   | (with_reducible exact ih0 _ _)
   | (with_reducible exact ih1 _ _)
   | (with_reducible exact ih2 _ _ _ _ _ _)
   | (with_reducible exact ih3 _ _ _ _ _ _)
   | (with_reducible exact spec_NameOK.mono _ _)
   | (with_reducible exact spec_l23Stock.mono _ _ _ _)
   | (with_reducible exact LeO.refl _)
   | (with_reducible exact LeO.none _)
   | (with_reducible refine LeO.ite ?_ ?_)
   | (with_reducible refine LeO.bind ?_ (fun _ => ?_))
   | exact ih0 _ _
   | exact ih1 _ _
   | exact ih2 _ _ _ _ _ _
   | exact ih3 _ _ _ _ _ _
   | exact spec_NameOK.mono _ _
   | exact spec_l23Stock.mono _ _ _ _
   | exact LeO.none _
   | refine LeO.ite ?_ ?_
   | refine LeO.bind ?_ (fun _ => ?_)
  ·intro y0 y1 y2 y3 y4 y5
   unfold spec_SourcesOK.l1
   repeat' first
   | (with_reducible exact ih0 _ _)
   | (with_reducible exact ih1 _ _)
   | (with_reducible exact ih2 _ _ _ _ _ _)
   | (with_reducible exact ih3 _ _ _ _ _ _)
   | (with_reducible exact spec_NameOK.mono _ _)
   | (with_reducible exact spec_l23Stock.mono _ _ _ _)
   | (with_reducible exact LeO.refl _)
   | (with_reducible exact LeO.none _)
   | (with_reducible refine LeO.ite ?_ ?_)
   | (with_reducible refine LeO.bind ?_ (fun _ => ?_))
   | exact ih0 _ _
   | exact ih1 _ _
   | exact ih2 _ _ _ _ _ _
   | exact ih3 _ _ _ _ _ _
   | exact spec_NameOK.mono _ _
   | exact spec_l23Stock.mono _ _ _ _
   | exact LeO.none _
   | refine LeO.ite ?_ ?_
   | refine LeO.bind ?_ (fun _ => ?_)
theorem spec_SourcesOK.mono : ∀ a0 a1 k, LeO (spec_SourcesOK.f k a0 a1) (spec_SourcesOK.f (k + 1) a0 a1) := by
 intro a0 a1 k
 obtain ⟨ih0, ih1, ih2, ih3⟩ := spec_SourcesOK.mono_l k
 unfold spec_SourcesOK.f
 repeat' first
   | (with_reducible exact ih0 _ _)
   | (with_reducible exact ih1 _ _)
   | (with_reducible exact ih2 _ _ _ _ _ _)
   | (with_reducible exact ih3 _ _ _ _ _ _)
   | (with_reducible exact spec_NameOK.mono _ _)
   | (with_reducible exact spec_l23Stock.mono _ _ _ _)
   | (with_reducible exact LeO.refl _)
   | (with_reducible exact LeO.none _)
   | (with_reducible refine LeO.ite ?_ ?_)
   | (with_reducible refine LeO.bind ?_ (fun _ => ?_))
   | exact ih0 _ _
   | exact ih1 _ _
   | exact ih2 _ _ _ _ _ _
   | exact ih3 _ _ _ _ _ _
   | exact spec_NameOK.mono _ _
   | exact spec_l23Stock.mono _ _ _ _
   | exact LeO.none _
   | refine LeO.ite ?_ ?_
   | refine LeO.bind ?_ (fun _ => ?_)
set_option maxHeartbeats 8000000 in
set_option maxRecDepth 100000 in
theorem spec_SourcesOK.calls (k : Nat) (A0 : Option Addr) (c0 : Nat) (l0 : List (S75)) (A1 : Option Addr) (c1 : Nat) (l1 : List (S76)) (r : Bool) (w : World) (hr0 : Kd.C k75 w A0 l0.length l0) (hc0 : l0.length ≤ c0) (hr1 : Kd.C k76 w A1 l1.length l1) (hc1 : l1.length ≤ c1) (h : spec_SourcesOK.f k l0 l1 = some r) :
  Calls Try.prog 36 #[.slice A0 l0.length c0, .slice A1 l1.length c1] w fun e w' => e = .returned (.bool r) ∧ Below w.heap.size w w' := by
 have hu75 := Try.underlying75
 have HR0 := za hr0
 have HC0 := za hc0
 clear hr0 hc0
 have HR1 := za hr1
 have HC1 := za hc1
 clear hr1 hc1
 have HB := za (Below.refl w.heap.size w)
 have H : (if (l0.length : Int) > 6 then (spec_SourcesOK.j0 k l0 true) else ((spec_l23Stock.f k l1 5 1).bind fun t116 => (spec_SourcesOK.j0 k l0 (!t116)))) = some r := h
 clear h
 have HC3 := za H
 clear H
 go_enter Try.func36, Try.ntmps36
 go_upto_region 1 with (fail)
 repeat (go_quiet (fail); go_upto_region 1 with (fail))
 go_cut [15] (fun v15 wc => ∃ (kq : Nat) (x15_2 : Bool), v15 = .bool x15_2 ∧ Aside0 (spec_SourcesOK.j0 kq l0 x15_2 = some r) ∧ Aside0 (kq ≤ k) ∧ Aside0 (Below w.heap.size w wc))
 case first =>
  have H := HC3.out
  clear HC3
  by_cases c4 : (l0.length : Int) > 6
  ·rw [if_pos c4] at H
   have c4b0 : decide (6 < (l0.length : Int)) = true := decide_eq_true c4
   have c4b1 : decide (6 < l0.length) = true := decide_eq_true (by omega)
   clear c4
   (first | rw [c4b0] | (simp only [i64_w, i32_w]; rw [c4b0]) | skip)
   have H' := za H
   clear H
   go_wp2
   repeat (go_quiet (fail); try go_wp2)
   go_meet
   case rel => exact ⟨_, (true), zG82, H', ⟨by first | omega | exact Nat.le_refl _⟩, ⟨by repeat (first | (with_reducible first | exact HB.out | apply zd | apply zb | apply zc) | exact HB.out)⟩⟩
  ·rw [if_neg c4] at H
   have c4b0 : decide (6 < (l0.length : Int)) = false := decide_eq_false c4
   have c4b1 : decide (6 < l0.length) = false := decide_eq_false (by omega)
   clear c4
   (first | rw [c4b0] | (simp only [i64_w, i32_w]; rw [c4b0]) | skip)
   replace H := Option.bind_eq_some_iff.mp H
   obtain ⟨t116, A50, H⟩ := H
   replace H : (spec_SourcesOK.j0 k l0 (!t116)) = some r := H
   have A5 := za A50
   clear A50
   have H' := za H
   clear H
   go_wp2_with (first | (go_at_call 68; (with_reducible refine (spec_l23Stock.calls k _ _ l1 5 1 t116 _ ?side1 ?side2 A5.out).mono ?_); (case side1 => repeat (first | exact (zw HR1.out HB.out) | (with_reducible refine zs ?_ _) | (with_reducible refine zt ?_ _) | (with_reducible refine zu ?_))); (case side2 => exact HC1.out); rintro e w' ⟨rfl, ⟨nd, rfl⟩⟩; (try first | exact ⟨rfl, _, World.drewN_drewN _ _ _⟩ | exact ⟨rfl, _, Eq.trans (World.drewN_drewN _ _ _) (congrArg (World.drewN _) (Nat.add_assoc _ _ _))⟩)))
   repeat (go_quiet (first | (go_at_call 68; (with_reducible refine (spec_l23Stock.calls k _ _ l1 5 1 t116 _ ?side1 ?side2 A5.out).mono ?_); (case side1 => repeat (first | exact (zw HR1.out HB.out) | (with_reducible refine zs ?_ _) | (with_reducible refine zt ?_ _) | (with_reducible refine zu ?_))); (case side2 => exact HC1.out); rintro e w' ⟨rfl, ⟨nd, rfl⟩⟩; (try first | exact ⟨rfl, _, World.drewN_drewN _ _ _⟩ | exact ⟨rfl, _, Eq.trans (World.drewN_drewN _ _ _) (congrArg (World.drewN _) (Nat.add_assoc _ _ _))⟩))); try go_wp2_with (first | (go_at_call 68; (with_reducible refine (spec_l23Stock.calls k _ _ l1 5 1 t116 _ ?side1 ?side2 A5.out).mono ?_); (case side1 => repeat (first | exact (zw HR1.out HB.out) | (with_reducible refine zs ?_ _) | (with_reducible refine zt ?_ _) | (with_reducible refine zu ?_))); (case side2 => exact HC1.out); rintro e w' ⟨rfl, ⟨nd, rfl⟩⟩; (try first | exact ⟨rfl, _, World.drewN_drewN _ _ _⟩ | exact ⟨rfl, _, Eq.trans (World.drewN_drewN _ _ _) (congrArg (World.drewN _) (Nat.add_assoc _ _ _))⟩))))
   go_meet
   case rel => exact ⟨_, (!t116), zG82, H', ⟨by first | omega | exact Nat.le_refl _⟩, ⟨by repeat (first | (with_reducible first | exact HB.out | apply zd | apply zb | apply zc) | exact HB.out)⟩⟩
 case rest =>
  clear HC3
  try clear c1
  try clear p2
  try clear c3
  try clear c4
  try clear c4b0
  try clear c4b1
  obtain ⟨kq, x15_2, rfl, HA, HJ2, HB⟩ := hcut
  cases kq with
  | zero => exact absurd HA.out (by simp [spec_SourcesOK.j0])
  | succ kj2 =>
   have H := HA.out
   clear HA
   simp only [spec_SourcesOK.j0] at H
   by_cases c6 : x15_2 = true
   ·subst c6
    have H1 : (some false) = some r := by rw [if_pos rfl] at H; exact H
    clear H
    have H := H1
    clear H1
    obtain rfl := Option.some.inj H
    go_wp2
    repeat (go_quiet (fail); try go_wp2)
    go_ret
    exact ⟨by first | rfl | (simp [errW_none, errW_some] <;> rfl) | (simp [*, errW_none, errW_some] <;> rfl), by repeat (first | (with_reducible first | exact HB.out | apply zd | apply zb | apply zc) | exact HB.out)⟩
   ·replace c6 := Bool.eq_false_iff.mpr c6
    subst c6
    have H1 : (spec_SourcesOK.l0 kj2 l0 0) = some r := by rw [if_neg (show ¬ (false = true) by decide)] at H; exact H
    clear H
    have H := H1
    clear H1
    have H' := za H
    clear H
    go_wp2
    repeat (go_quiet (fail); try go_wp2)
    go_loopg [5] kj2 (fun kq v5 w' => ∃ (x5_2 : Int), v5 = .int .i64 x5_2 ∧ Aside0 (spec_SourcesOK.l0 kq l0 x5_2 = some r) ∧ Aside0 (kq ≤ kj2) ∧ Aside0 (Below w.heap.size w w'))
    case atStart => exact ⟨(0), zG82, H', ⟨Nat.le_refl _⟩, ⟨by repeat (first | (with_reducible first | exact HB.out | apply zd | apply zb | apply zc) | exact HB.out)⟩⟩
    case round =>
     clear H'
     try clear c1
     try clear p2
     try clear c3
     try clear c4
     try clear c4b0
     try clear c4b1
     try clear c6
     try clear p2
     obtain ⟨x5_2, rfl, HA, HK2, HB⟩ := hrel
     cases gk with
     | zero => exact absurd HA.out (by simp [spec_SourcesOK.l0])
     | succ k2 =>
      have H := HA.out
      clear HA
      simp only [spec_SourcesOK.l0] at H
      by_cases c7 : x5_2 < (l0.length : Int)
      ·rw [if_pos c7] at H
       have c7b0 : decide (x5_2 < (l0.length : Int)) = true := decide_eq_true c7
       clear c7
       by_cases c8 : 0 ≤ x5_2
       ·rw [if_pos c8] at H
        have c8b0 : decide (0 ≤ x5_2) = true := decide_eq_true c8
        clear c8
        have HC9 := za H
        clear H
        have p117 : 0 ≤ (x5_2 : Int) := zO
        have q117 : x5_2 < (l0.length : Int) := zO
        obtain ⟨ad117, A117_2, c117_2, e117, hx117_0, hx117_1, hx117_2, hl117_2, hi117_2⟩ := at_T75 HR0.out x5_2 p117 q117
        cases e117
        replace hx117_0 := (HB.out.cell (ze w _ hx117_0)).trans hx117_0
        replace hx117_1 := (HB.out.cell (ze w _ hx117_1)).trans hx117_1
        replace hx117_2 := (HB.out.cell (ze w _ hx117_2)).trans hx117_2
        have HR117_2 := za hi117_2
        have HC117_2 := za hl117_2
        clear hi117_2 hl117_2
        replace p117 := eq_true p117
        replace q117 := eq_true q117
        go_upto_region 7 with (first | ((with_reducible refine gate_dst (N := 6) rfl ?_); refine box_event ?hg (N := 6) ?hd (cs := #[.string (⟨#[]⟩ : ByteArray), .int .i64 0, .slice none 0 0]) (t := 75) ?hr ?_; (case hd => rfl); (case hg => rfl); (case hr => first | (go_simp; done) | (go_simp; rfl)); intro gb118 hg w10 hbox hb; have n0_ := za (zq zG72 hb); have n1_ := za (hbox); have n2_ := za ((by rw [hg]; exact (zo zG72) : w.heap.size ≤ gb118)); have n3_ := za ((by rw [hg]; exact (zo zG72) : w.heap.size ≤ gb118)); clear HB; have HB := n0_; have BK118 := n1_; have GW118 := n2_; have GE118 := n3_; clear n0_ n1_ n2_ n3_; clear hb hbox hg; have hcz11_0 : w10.cell? ⟨gb118, 0, none⟩ = some (.string (⟨#[]⟩ : ByteArray)) := (zm BK118.out 0).trans rfl; have hcz11_1 : w10.cell? ⟨gb118, 1, none⟩ = some (.int .i64 0) := (zm BK118.out 1).trans rfl; have hcz11_2 : w10.cell? ⟨gb118, 2, none⟩ = some (.slice none 0 0) := (zm BK118.out 2).trans rfl; have hfz11_0 := zj BK118.out 0; have hfz11_1 := zj BK118.out 1; have hfz11_2 := zj BK118.out 2))
        repeat (go_quiet (first | ((with_reducible refine gate_dst (N := 6) rfl ?_); refine box_event ?hg (N := 6) ?hd (cs := #[.string (⟨#[]⟩ : ByteArray), .int .i64 0, .slice none 0 0]) (t := 75) ?hr ?_; (case hd => rfl); (case hg => rfl); (case hr => first | (go_simp; done) | (go_simp; rfl)); intro gb118 hg w10 hbox hb; have n0_ := za (zq zG72 hb); have n1_ := za (hbox); have n2_ := za ((by rw [hg]; exact (zo zG72) : w.heap.size ≤ gb118)); have n3_ := za ((by rw [hg]; exact (zo zG72) : w.heap.size ≤ gb118)); clear HB; have HB := n0_; have BK118 := n1_; have GW118 := n2_; have GE118 := n3_; clear n0_ n1_ n2_ n3_; clear hb hbox hg; have hcz11_0 : w10.cell? ⟨gb118, 0, none⟩ = some (.string (⟨#[]⟩ : ByteArray)) := (zm BK118.out 0).trans rfl; have hcz11_1 : w10.cell? ⟨gb118, 1, none⟩ = some (.int .i64 0) := (zm BK118.out 1).trans rfl; have hcz11_2 : w10.cell? ⟨gb118, 2, none⟩ = some (.slice none 0 0) := (zm BK118.out 2).trans rfl; have hfz11_0 := zj BK118.out 0; have hfz11_1 := zj BK118.out 1; have hfz11_2 := zj BK118.out 2)); go_upto_region 7 with (first | ((with_reducible refine gate_dst (N := 6) rfl ?_); refine box_event ?hg (N := 6) ?hd (cs := #[.string (⟨#[]⟩ : ByteArray), .int .i64 0, .slice none 0 0]) (t := 75) ?hr ?_; (case hd => rfl); (case hg => rfl); (case hr => first | (go_simp; done) | (go_simp; rfl)); intro gb118 hg w10 hbox hb; have n0_ := za (zq zG72 hb); have n1_ := za (hbox); have n2_ := za ((by rw [hg]; exact (zo zG72) : w.heap.size ≤ gb118)); have n3_ := za ((by rw [hg]; exact (zo zG72) : w.heap.size ≤ gb118)); clear HB; have HB := n0_; have BK118 := n1_; have GW118 := n2_; have GE118 := n3_; clear n0_ n1_ n2_ n3_; clear hb hbox hg; have hcz11_0 : w10.cell? ⟨gb118, 0, none⟩ = some (.string (⟨#[]⟩ : ByteArray)) := (zm BK118.out 0).trans rfl; have hcz11_1 : w10.cell? ⟨gb118, 1, none⟩ = some (.int .i64 0) := (zm BK118.out 1).trans rfl; have hcz11_2 : w10.cell? ⟨gb118, 2, none⟩ = some (.slice none 0 0) := (zm BK118.out 2).trans rfl; have hfz11_0 := zj BK118.out 0; have hfz11_1 := zj BK118.out 1; have hfz11_2 := zj BK118.out 2)))
        (try simp only [Act.put, List.setIfInBounds_toArray, List.set_cons_zero, List.set_cons_succ])
        go_cut [41] (fun v41 wc => ∃ (kq : Nat) (x41_8 : Bool), v41 = .bool x41_8 ∧ Aside0 (spec_SourcesOK.j2 kq l0 x5_2 x41_8 ((rd_T75 l0 x5_2).f0) ((rd_T75 l0 x5_2).f1) ((rd_T75 l0 x5_2).f2) = some r) ∧ Aside0 (kq ≤ k2) ∧ Aside0 (wc.heap[gb118]? = some (.cells #[.string ((rd_T75 l0 x5_2).f0), .int .i64 ((rd_T75 l0 x5_2).f1), (.slice A117_2 ((rd_T75 l0 x5_2).f2).length c117_2)] 75 (0, 0))) ∧ Aside0 (Below w.heap.size w wc))
        case first =>
         have H := HC9.out
         clear HC9
         replace H := Option.bind_eq_some_iff.mp H
         obtain ⟨t119, A120, H⟩ := H
         replace H : (if t119 = true then ((spec_l01In.f ((rd_T75 l0 x5_2).f1) 0 1000000).bind fun t120 => (if t120 = true then ((spec_l23Stock.f k2 ((rd_T75 l0 x5_2).f2) 12 0).bind fun t121 => (spec_SourcesOK.j2 k2 l0 x5_2 (!t121) ((rd_T75 l0 x5_2).f0) ((rd_T75 l0 x5_2).f1) ((rd_T75 l0 x5_2).f2))) else (spec_SourcesOK.j2 k2 l0 x5_2 true ((rd_T75 l0 x5_2).f0) ((rd_T75 l0 x5_2).f1) ((rd_T75 l0 x5_2).f2)))) else (spec_SourcesOK.j2 k2 l0 x5_2 true ((rd_T75 l0 x5_2).f0) ((rd_T75 l0 x5_2).f1) ((rd_T75 l0 x5_2).f2))) = some r := H
         have A12 := za A120
         clear A120
         by_cases c13 : t119 = true
         ·subst c13
          have H1 : ((spec_l01In.f ((rd_T75 l0 x5_2).f1) 0 1000000).bind fun t120 => (if t120 = true then ((spec_l23Stock.f k2 ((rd_T75 l0 x5_2).f2) 12 0).bind fun t121 => (spec_SourcesOK.j2 k2 l0 x5_2 (!t121) ((rd_T75 l0 x5_2).f0) ((rd_T75 l0 x5_2).f1) ((rd_T75 l0 x5_2).f2))) else (spec_SourcesOK.j2 k2 l0 x5_2 true ((rd_T75 l0 x5_2).f0) ((rd_T75 l0 x5_2).f1) ((rd_T75 l0 x5_2).f2)))) = some r := by rw [if_pos rfl] at H; exact H
          clear H
          have H := H1
          clear H1
          replace H := Option.bind_eq_some_iff.mp H
          obtain ⟨t120, A140, H⟩ := H
          replace H : (if t120 = true then ((spec_l23Stock.f k2 ((rd_T75 l0 x5_2).f2) 12 0).bind fun t121 => (spec_SourcesOK.j2 k2 l0 x5_2 (!t121) ((rd_T75 l0 x5_2).f0) ((rd_T75 l0 x5_2).f1) ((rd_T75 l0 x5_2).f2))) else (spec_SourcesOK.j2 k2 l0 x5_2 true ((rd_T75 l0 x5_2).f0) ((rd_T75 l0 x5_2).f1) ((rd_T75 l0 x5_2).f2))) = some r := H
          have A14 := za A140
          clear A140
          by_cases c15 : t120 = true
          ·subst c15
           have H1 : ((spec_l23Stock.f k2 ((rd_T75 l0 x5_2).f2) 12 0).bind fun t121 => (spec_SourcesOK.j2 k2 l0 x5_2 (!t121) ((rd_T75 l0 x5_2).f0) ((rd_T75 l0 x5_2).f1) ((rd_T75 l0 x5_2).f2))) = some r := by rw [if_pos rfl] at H; exact H
           clear H
           have H := H1
           clear H1
           replace H := Option.bind_eq_some_iff.mp H
           obtain ⟨t121, A160, H⟩ := H
           replace H : (spec_SourcesOK.j2 k2 l0 x5_2 (!t121) ((rd_T75 l0 x5_2).f0) ((rd_T75 l0 x5_2).f1) ((rd_T75 l0 x5_2).f2)) = some r := H
           have A16 := za A160
           clear A160
           have H' := za H
           clear H
           have hcz17_0 : w10.cell? ⟨gb118, 0, none⟩ = some (.string (⟨#[]⟩ : ByteArray)) := (zm BK118.out 0).trans rfl
           have hcz17_1 : w10.cell? ⟨gb118, 1, none⟩ = some (.int .i64 0) := (zm BK118.out 1).trans rfl
           have hcz17_2 : w10.cell? ⟨gb118, 2, none⟩ = some (.slice none 0 0) := (zm BK118.out 2).trans rfl
           have hfz17_0 := zj BK118.out 0
           have hfz17_1 := zj BK118.out 1
           have hfz17_2 := zj BK118.out 2
           go_wp2_with (first | (go_at_call 69; (with_reducible refine (spec_NameOK.calls k2 ((rd_T75 l0 x5_2).f0) true _ A12.out).mono ?_); rintro e w' ⟨rfl, ⟨nd, rfl⟩⟩; (try first | exact ⟨rfl, _, World.drewN_drewN _ _ _⟩ | exact ⟨rfl, _, Eq.trans (World.drewN_drewN _ _ _) (congrArg (World.drewN _) (Nat.add_assoc _ _ _))⟩)) | (go_at_call 37; (with_reducible refine (spec_l01In.calls ((rd_T75 l0 x5_2).f1) 0 1000000 true _ A14.out).mono ?_); rintro e w' ⟨rfl, ⟨nd, rfl⟩⟩; (try first | exact ⟨rfl, _, World.drewN_drewN _ _ _⟩ | exact ⟨rfl, _, Eq.trans (World.drewN_drewN _ _ _) (congrArg (World.drewN _) (Nat.add_assoc _ _ _))⟩)) | (go_at_call 68; (with_reducible refine (spec_l23Stock.calls k2 _ _ ((rd_T75 l0 x5_2).f2) 12 0 t121 _ ?side1 ?side2 A16.out).mono ?_); (case side1 => exact zw HR117_2.out (by repeat (first | (with_reducible first | exact HB.out | apply zd | apply zb | apply zc | refine zf ?_ GE118.out) | exact HB.out))); (case side2 => exact HC117_2.out); rintro e w' ⟨rfl, ⟨nd, rfl⟩⟩; (try first | exact ⟨rfl, _, World.drewN_drewN _ _ _⟩ | exact ⟨rfl, _, Eq.trans (World.drewN_drewN _ _ _) (congrArg (World.drewN _) (Nat.add_assoc _ _ _))⟩)))
           repeat (go_quiet (first | (go_at_call 69; (with_reducible refine (spec_NameOK.calls k2 ((rd_T75 l0 x5_2).f0) true _ A12.out).mono ?_); rintro e w' ⟨rfl, ⟨nd, rfl⟩⟩; (try first | exact ⟨rfl, _, World.drewN_drewN _ _ _⟩ | exact ⟨rfl, _, Eq.trans (World.drewN_drewN _ _ _) (congrArg (World.drewN _) (Nat.add_assoc _ _ _))⟩)) | (go_at_call 37; (with_reducible refine (spec_l01In.calls ((rd_T75 l0 x5_2).f1) 0 1000000 true _ A14.out).mono ?_); rintro e w' ⟨rfl, ⟨nd, rfl⟩⟩; (try first | exact ⟨rfl, _, World.drewN_drewN _ _ _⟩ | exact ⟨rfl, _, Eq.trans (World.drewN_drewN _ _ _) (congrArg (World.drewN _) (Nat.add_assoc _ _ _))⟩)) | (go_at_call 68; (with_reducible refine (spec_l23Stock.calls k2 _ _ ((rd_T75 l0 x5_2).f2) 12 0 t121 _ ?side1 ?side2 A16.out).mono ?_); (case side1 => exact zw HR117_2.out (by repeat (first | (with_reducible first | exact HB.out | apply zd | apply zb | apply zc | refine zf ?_ GE118.out) | exact HB.out))); (case side2 => exact HC117_2.out); rintro e w' ⟨rfl, ⟨nd, rfl⟩⟩; (try first | exact ⟨rfl, _, World.drewN_drewN _ _ _⟩ | exact ⟨rfl, _, Eq.trans (World.drewN_drewN _ _ _) (congrArg (World.drewN _) (Nat.add_assoc _ _ _))⟩))); try go_wp2_with (first | (go_at_call 69; (with_reducible refine (spec_NameOK.calls k2 ((rd_T75 l0 x5_2).f0) true _ A12.out).mono ?_); rintro e w' ⟨rfl, ⟨nd, rfl⟩⟩; (try first | exact ⟨rfl, _, World.drewN_drewN _ _ _⟩ | exact ⟨rfl, _, Eq.trans (World.drewN_drewN _ _ _) (congrArg (World.drewN _) (Nat.add_assoc _ _ _))⟩)) | (go_at_call 37; (with_reducible refine (spec_l01In.calls ((rd_T75 l0 x5_2).f1) 0 1000000 true _ A14.out).mono ?_); rintro e w' ⟨rfl, ⟨nd, rfl⟩⟩; (try first | exact ⟨rfl, _, World.drewN_drewN _ _ _⟩ | exact ⟨rfl, _, Eq.trans (World.drewN_drewN _ _ _) (congrArg (World.drewN _) (Nat.add_assoc _ _ _))⟩)) | (go_at_call 68; (with_reducible refine (spec_l23Stock.calls k2 _ _ ((rd_T75 l0 x5_2).f2) 12 0 t121 _ ?side1 ?side2 A16.out).mono ?_); (case side1 => exact zw HR117_2.out (by repeat (first | (with_reducible first | exact HB.out | apply zd | apply zb | apply zc | refine zf ?_ GE118.out) | exact HB.out))); (case side2 => exact HC117_2.out); rintro e w' ⟨rfl, ⟨nd, rfl⟩⟩; (try first | exact ⟨rfl, _, World.drewN_drewN _ _ _⟩ | exact ⟨rfl, _, Eq.trans (World.drewN_drewN _ _ _) (congrArg (World.drewN _) (Nat.add_assoc _ _ _))⟩))))
           go_meet
           case rel => exact ⟨_, (!t121), zG82, H', ⟨by have := HJ2.out; have := HK2.out; first | omega | exact Nat.le_refl _⟩, ⟨by (with_reducible repeat (first | refine zh ?_ _ | refine zi ?_ | refine zg ?_ _)); refine zy (cs := #[.string ((rd_T75 l0 x5_2).f0), .int .i64 ((rd_T75 l0 x5_2).f1), .slice none 0 0]) ?_ 2 _ rfl; (with_reducible repeat (first | refine zh ?_ _ | refine zi ?_ | refine zg ?_ _)); refine zy (cs := #[.string ((rd_T75 l0 x5_2).f0), .int .i64 0, .slice none 0 0]) ?_ 1 _ rfl; (with_reducible repeat (first | refine zh ?_ _ | refine zi ?_ | refine zg ?_ _)); refine zy (cs := #[.string (⟨#[]⟩ : ByteArray), .int .i64 0, .slice none 0 0]) ?_ 0 _ rfl; (with_reducible repeat (first | refine zh ?_ _ | refine zi ?_ | refine zg ?_ _)); exact BK118.out⟩, ⟨by repeat (first | (with_reducible first | exact HB.out | apply zd | apply zb | apply zc | refine zf ?_ GE118.out) | exact HB.out)⟩⟩
          ·replace c15 := Bool.eq_false_iff.mpr c15
           subst c15
           have H1 : (spec_SourcesOK.j2 k2 l0 x5_2 true ((rd_T75 l0 x5_2).f0) ((rd_T75 l0 x5_2).f1) ((rd_T75 l0 x5_2).f2)) = some r := by rw [if_neg (show ¬ (false = true) by decide)] at H; exact H
           clear H
           have H := H1
           clear H1
           have H' := za H
           clear H
           have hcz18_0 : w10.cell? ⟨gb118, 0, none⟩ = some (.string (⟨#[]⟩ : ByteArray)) := (zm BK118.out 0).trans rfl
           have hcz18_1 : w10.cell? ⟨gb118, 1, none⟩ = some (.int .i64 0) := (zm BK118.out 1).trans rfl
           have hcz18_2 : w10.cell? ⟨gb118, 2, none⟩ = some (.slice none 0 0) := (zm BK118.out 2).trans rfl
           have hfz18_0 := zj BK118.out 0
           have hfz18_1 := zj BK118.out 1
           have hfz18_2 := zj BK118.out 2
           go_wp2_with (first | (go_at_call 69; (with_reducible refine (spec_NameOK.calls k2 ((rd_T75 l0 x5_2).f0) true _ A12.out).mono ?_); rintro e w' ⟨rfl, ⟨nd, rfl⟩⟩; (try first | exact ⟨rfl, _, World.drewN_drewN _ _ _⟩ | exact ⟨rfl, _, Eq.trans (World.drewN_drewN _ _ _) (congrArg (World.drewN _) (Nat.add_assoc _ _ _))⟩)) | (go_at_call 37; (with_reducible refine (spec_l01In.calls ((rd_T75 l0 x5_2).f1) 0 1000000 false _ A14.out).mono ?_); rintro e w' ⟨rfl, ⟨nd, rfl⟩⟩; (try first | exact ⟨rfl, _, World.drewN_drewN _ _ _⟩ | exact ⟨rfl, _, Eq.trans (World.drewN_drewN _ _ _) (congrArg (World.drewN _) (Nat.add_assoc _ _ _))⟩)))
           repeat (go_quiet (first | (go_at_call 69; (with_reducible refine (spec_NameOK.calls k2 ((rd_T75 l0 x5_2).f0) true _ A12.out).mono ?_); rintro e w' ⟨rfl, ⟨nd, rfl⟩⟩; (try first | exact ⟨rfl, _, World.drewN_drewN _ _ _⟩ | exact ⟨rfl, _, Eq.trans (World.drewN_drewN _ _ _) (congrArg (World.drewN _) (Nat.add_assoc _ _ _))⟩)) | (go_at_call 37; (with_reducible refine (spec_l01In.calls ((rd_T75 l0 x5_2).f1) 0 1000000 false _ A14.out).mono ?_); rintro e w' ⟨rfl, ⟨nd, rfl⟩⟩; (try first | exact ⟨rfl, _, World.drewN_drewN _ _ _⟩ | exact ⟨rfl, _, Eq.trans (World.drewN_drewN _ _ _) (congrArg (World.drewN _) (Nat.add_assoc _ _ _))⟩))); try go_wp2_with (first | (go_at_call 69; (with_reducible refine (spec_NameOK.calls k2 ((rd_T75 l0 x5_2).f0) true _ A12.out).mono ?_); rintro e w' ⟨rfl, ⟨nd, rfl⟩⟩; (try first | exact ⟨rfl, _, World.drewN_drewN _ _ _⟩ | exact ⟨rfl, _, Eq.trans (World.drewN_drewN _ _ _) (congrArg (World.drewN _) (Nat.add_assoc _ _ _))⟩)) | (go_at_call 37; (with_reducible refine (spec_l01In.calls ((rd_T75 l0 x5_2).f1) 0 1000000 false _ A14.out).mono ?_); rintro e w' ⟨rfl, ⟨nd, rfl⟩⟩; (try first | exact ⟨rfl, _, World.drewN_drewN _ _ _⟩ | exact ⟨rfl, _, Eq.trans (World.drewN_drewN _ _ _) (congrArg (World.drewN _) (Nat.add_assoc _ _ _))⟩))))
           go_meet
           case rel => exact ⟨_, (true), zG82, H', ⟨by have := HJ2.out; have := HK2.out; first | omega | exact Nat.le_refl _⟩, ⟨by (with_reducible repeat (first | refine zh ?_ _ | refine zi ?_ | refine zg ?_ _)); refine zy (cs := #[.string ((rd_T75 l0 x5_2).f0), .int .i64 ((rd_T75 l0 x5_2).f1), .slice none 0 0]) ?_ 2 _ rfl; (with_reducible repeat (first | refine zh ?_ _ | refine zi ?_ | refine zg ?_ _)); refine zy (cs := #[.string ((rd_T75 l0 x5_2).f0), .int .i64 0, .slice none 0 0]) ?_ 1 _ rfl; (with_reducible repeat (first | refine zh ?_ _ | refine zi ?_ | refine zg ?_ _)); refine zy (cs := #[.string (⟨#[]⟩ : ByteArray), .int .i64 0, .slice none 0 0]) ?_ 0 _ rfl; (with_reducible repeat (first | refine zh ?_ _ | refine zi ?_ | refine zg ?_ _)); exact BK118.out⟩, ⟨by repeat (first | (with_reducible first | exact HB.out | apply zd | apply zb | apply zc | refine zf ?_ GE118.out) | exact HB.out)⟩⟩
         ·replace c13 := Bool.eq_false_iff.mpr c13
          subst c13
          have H1 : (spec_SourcesOK.j2 k2 l0 x5_2 true ((rd_T75 l0 x5_2).f0) ((rd_T75 l0 x5_2).f1) ((rd_T75 l0 x5_2).f2)) = some r := by rw [if_neg (show ¬ (false = true) by decide)] at H; exact H
          clear H
          have H := H1
          clear H1
          have H' := za H
          clear H
          have hcz19_0 : w10.cell? ⟨gb118, 0, none⟩ = some (.string (⟨#[]⟩ : ByteArray)) := (zm BK118.out 0).trans rfl
          have hcz19_1 : w10.cell? ⟨gb118, 1, none⟩ = some (.int .i64 0) := (zm BK118.out 1).trans rfl
          have hcz19_2 : w10.cell? ⟨gb118, 2, none⟩ = some (.slice none 0 0) := (zm BK118.out 2).trans rfl
          have hfz19_0 := zj BK118.out 0
          have hfz19_1 := zj BK118.out 1
          have hfz19_2 := zj BK118.out 2
          go_wp2_with (first | (go_at_call 69; (with_reducible refine (spec_NameOK.calls k2 ((rd_T75 l0 x5_2).f0) false _ A12.out).mono ?_); rintro e w' ⟨rfl, ⟨nd, rfl⟩⟩; (try first | exact ⟨rfl, _, World.drewN_drewN _ _ _⟩ | exact ⟨rfl, _, Eq.trans (World.drewN_drewN _ _ _) (congrArg (World.drewN _) (Nat.add_assoc _ _ _))⟩)))
          repeat (go_quiet (first | (go_at_call 69; (with_reducible refine (spec_NameOK.calls k2 ((rd_T75 l0 x5_2).f0) false _ A12.out).mono ?_); rintro e w' ⟨rfl, ⟨nd, rfl⟩⟩; (try first | exact ⟨rfl, _, World.drewN_drewN _ _ _⟩ | exact ⟨rfl, _, Eq.trans (World.drewN_drewN _ _ _) (congrArg (World.drewN _) (Nat.add_assoc _ _ _))⟩))); try go_wp2_with (first | (go_at_call 69; (with_reducible refine (spec_NameOK.calls k2 ((rd_T75 l0 x5_2).f0) false _ A12.out).mono ?_); rintro e w' ⟨rfl, ⟨nd, rfl⟩⟩; (try first | exact ⟨rfl, _, World.drewN_drewN _ _ _⟩ | exact ⟨rfl, _, Eq.trans (World.drewN_drewN _ _ _) (congrArg (World.drewN _) (Nat.add_assoc _ _ _))⟩))))
          go_meet
          case rel => exact ⟨_, (true), zG82, H', ⟨by have := HJ2.out; have := HK2.out; first | omega | exact Nat.le_refl _⟩, ⟨by (with_reducible repeat (first | refine zh ?_ _ | refine zi ?_ | refine zg ?_ _)); refine zy (cs := #[.string ((rd_T75 l0 x5_2).f0), .int .i64 ((rd_T75 l0 x5_2).f1), .slice none 0 0]) ?_ 2 _ rfl; (with_reducible repeat (first | refine zh ?_ _ | refine zi ?_ | refine zg ?_ _)); refine zy (cs := #[.string ((rd_T75 l0 x5_2).f0), .int .i64 0, .slice none 0 0]) ?_ 1 _ rfl; (with_reducible repeat (first | refine zh ?_ _ | refine zi ?_ | refine zg ?_ _)); refine zy (cs := #[.string (⟨#[]⟩ : ByteArray), .int .i64 0, .slice none 0 0]) ?_ 0 _ rfl; (with_reducible repeat (first | refine zh ?_ _ | refine zi ?_ | refine zg ?_ _)); exact BK118.out⟩, ⟨by repeat (first | (with_reducible first | exact HB.out | apply zd | apply zb | apply zc | refine zf ?_ GE118.out) | exact HB.out)⟩⟩
        case rest =>
         clear HC9
         try clear c1
         try clear p1
         try clear q1
         try clear hx1
         try clear p2
         try clear c3
         try clear c4
         try clear c4b0
         try clear c4b1
         try clear c6
         try clear c7
         try clear c7b0
         try clear c8
         try clear c8b0
         try clear c11
         try clear p11
         try clear q11
         try clear hx11
         try clear c13
         try clear c15
         try clear hcz11_0
         try clear hcz11_1
         try clear hcz11_2
         try clear hcz17_0
         try clear hcz17_1
         try clear hcz17_2
         try clear hcz18_0
         try clear hcz18_1
         try clear hcz18_2
         try clear hcz19_0
         try clear hcz19_1
         try clear hcz19_2
         try clear hfz11_0
         try clear hfz11_1
         try clear hfz11_2
         try clear hfz17_0
         try clear hfz17_1
         try clear hfz17_2
         try clear hfz18_0
         try clear hfz18_1
         try clear hfz18_2
         try clear hfz19_0
         try clear hfz19_1
         try clear hfz19_2
         try clear hx117_0
         try clear hx117_1
         try clear hx117_2
         try clear p117
         try clear p2
         try clear q117
         obtain ⟨kq, x41_8, rfl, HA, HJ8, BK118, HB⟩ := hcut
         cases kq with
         | zero => exact absurd HA.out (by simp [spec_SourcesOK.j2])
         | succ kj8 =>
          have H := HA.out
          clear HA
          simp only [spec_SourcesOK.j2] at H
          by_cases c20 : x41_8 = true
          ·subst c20
           have H1 : (some false) = some r := by rw [if_pos rfl] at H; exact H
           clear H
           have H := H1
           clear H1
           obtain rfl := Option.some.inj H
           go_wp2
           repeat (go_quiet (fail); try go_wp2)
           go_ret
           exact ⟨by first | rfl | (simp [errW_none, errW_some] <;> rfl) | (simp [*, errW_none, errW_some] <;> rfl), by repeat (first | (with_reducible first | exact HB.out | apply zd | apply zb | apply zc | refine zf ?_ GE118.out) | exact HB.out)⟩
          ·replace c20 := Bool.eq_false_iff.mpr c20
           subst c20
           have H1 : (spec_SourcesOK.l1 kj8 l0 x5_2 0 ((rd_T75 l0 x5_2).f0) ((rd_T75 l0 x5_2).f1) ((rd_T75 l0 x5_2).f2)) = some r := by rw [if_neg (show ¬ (false = true) by decide)] at H; exact H
           clear H
           have H := H1
           clear H1
           have H' := za H
           clear H
           go_wp2
           repeat (go_quiet (fail); try go_wp2)
           go_loopg [7] kj8 (fun kq v7 w' => ∃ (x7_4 : Int), v7 = .int .i64 x7_4 ∧ Aside0 (spec_SourcesOK.l1 kq l0 x5_2 x7_4 ((rd_T75 l0 x5_2).f0) ((rd_T75 l0 x5_2).f1) ((rd_T75 l0 x5_2).f2) = some r) ∧ Aside0 (kq ≤ kj8) ∧ Aside0 (w'.heap[gb118]? = some (.cells #[.string ((rd_T75 l0 x5_2).f0), .int .i64 ((rd_T75 l0 x5_2).f1), (.slice A117_2 ((rd_T75 l0 x5_2).f2).length c117_2)] 75 (0, 0))) ∧ Aside0 (Below w.heap.size w w'))
           case atStart => exact ⟨(0), zG82, H', ⟨Nat.le_refl _⟩, ⟨by (with_reducible repeat (first | refine zh ?_ _ | refine zi ?_ | refine zg ?_ _)); exact BK118.out⟩, ⟨by repeat (first | (with_reducible first | exact HB.out | apply zd | apply zb | apply zc | refine zf ?_ GE118.out) | exact HB.out)⟩⟩
           case round =>
            clear H'
            try clear c1
            try clear p1
            try clear q1
            try clear hx1
            try clear c2
            try clear p2
            try clear c3
            try clear c4
            try clear c4b0
            try clear c4b1
            try clear c6
            try clear c7
            try clear c7b0
            try clear c8
            try clear c8b0
            try clear c11
            try clear p11
            try clear q11
            try clear hx11
            try clear c13
            try clear c15
            try clear c20
            try clear hcz11_0
            try clear hcz11_1
            try clear hcz11_2
            try clear hcz17_0
            try clear hcz17_1
            try clear hcz17_2
            try clear hcz18_0
            try clear hcz18_1
            try clear hcz18_2
            try clear hcz19_0
            try clear hcz19_1
            try clear hcz19_2
            try clear hfz11_0
            try clear hfz11_1
            try clear hfz11_2
            try clear hfz17_0
            try clear hfz17_1
            try clear hfz17_2
            try clear hfz18_0
            try clear hfz18_1
            try clear hfz18_2
            try clear hfz19_0
            try clear hfz19_1
            try clear hfz19_2
            try clear hx117_0
            try clear hx117_1
            try clear hx117_2
            try clear p1
            try clear p11
            try clear p117
            try clear p2
            try clear q1
            try clear q11
            try clear q117
            obtain ⟨x7_4, rfl, HA, HK4, BK118, HB⟩ := hrel
            cases gk with
            | zero => exact absurd HA.out (by simp [spec_SourcesOK.l1])
            | succ k4 =>
             have H := HA.out
             clear HA
             simp only [spec_SourcesOK.l1] at H
             by_cases c21 : x7_4 < x5_2
             ·rw [if_pos c21] at H
              have c21b0 : decide (x7_4 < x5_2) = true := decide_eq_true c21
              clear c21
              by_cases c22 : 0 ≤ x7_4
              ·rw [if_pos c22] at H
               have c22b0 : decide (0 ≤ x7_4) = true := decide_eq_true c22
               clear c22
               by_cases c23 : x7_4 < (l0.length : Int)
               ·rw [if_pos c23] at H
                have c23b0 : decide (x7_4 < (l0.length : Int)) = true := decide_eq_true c23
                clear c23
                by_cases c24 : ((rd_T75 l0 x7_4).f0).toList = ((rd_T75 l0 x5_2).f0).toList
                ·rw [if_pos c24] at H
                 have c24b0 : (((rd_T75 l0 x7_4).f0).toList == ((rd_T75 l0 x5_2).f0).toList) = true := beq_iff_eq.mpr c24
                 have c24b1 : (((rd_T75 l0 x7_4).f0).toList != ((rd_T75 l0 x5_2).f0).toList) = false := bne_eq_false_iff_eq.mpr c24
                 clear c24
                 obtain rfl := Option.some.inj H
                 have p122 : 0 ≤ (x7_4 : Int) := zO
                 have q122 : x7_4 < (l0.length : Int) := zO
                 obtain ⟨ad122, A122_2, c122_2, e122, hx122_0, hx122_1, hx122_2, hl122_2, hi122_2⟩ := at_T75 HR0.out x7_4 p122 q122
                 obtain rfl : ad117 = ad122 := (by injection e122)
                 replace hx122_0 := (HB.out.cell (ze w _ hx122_0)).trans hx122_0
                 replace hx122_1 := (HB.out.cell (ze w _ hx122_1)).trans hx122_1
                 replace hx122_2 := (HB.out.cell (ze w _ hx122_2)).trans hx122_2
                 have HR122_2 := za hi122_2
                 have HC122_2 := za hl122_2
                 clear hi122_2 hl122_2
                 replace p122 := eq_true p122
                 replace q122 := eq_true q122
                 have hcz25_0 : wr.cell? ⟨gb118, 0, none⟩ = some (.string ((rd_T75 l0 x5_2).f0)) := (zm BK118.out 0).trans rfl
                 have hcz25_1 : wr.cell? ⟨gb118, 1, none⟩ = some (.int .i64 ((rd_T75 l0 x5_2).f1)) := (zm BK118.out 1).trans rfl
                 have hcz25_2 : wr.cell? ⟨gb118, 2, none⟩ = some (.slice A117_2 ((rd_T75 l0 x5_2).f2).length c117_2) := (zm BK118.out 2).trans rfl
                 have hfz25_0 := zj BK118.out 0
                 have hfz25_1 := zj BK118.out 1
                 have hfz25_2 := zj BK118.out 2
                 go_wp2
                 repeat (go_quiet (fail); try go_wp2)
                 go_ret
                 exact ⟨by first | rfl | (simp [errW_none, errW_some] <;> rfl) | (simp [*, errW_none, errW_some] <;> rfl), by repeat (first | (with_reducible first | exact HB.out | apply zd | apply zb | apply zc | refine zf ?_ GE118.out) | exact HB.out)⟩
                ·rw [if_neg c24] at H
                 have c24b0 : (((rd_T75 l0 x7_4).f0).toList == ((rd_T75 l0 x5_2).f0).toList) = false := beq_eq_false_iff_ne.mpr c24
                 have c24b1 : (((rd_T75 l0 x7_4).f0).toList != ((rd_T75 l0 x5_2).f0).toList) = true := bne_iff_ne.mpr c24
                 have H' := za H
                 clear H
                 have p122 : 0 ≤ (x7_4 : Int) := zO
                 have q122 : x7_4 < (l0.length : Int) := zO
                 obtain ⟨ad122, A122_2, c122_2, e122, hx122_0, hx122_1, hx122_2, hl122_2, hi122_2⟩ := at_T75 HR0.out x7_4 p122 q122
                 obtain rfl : ad117 = ad122 := (by injection e122)
                 replace hx122_0 := (HB.out.cell (ze w _ hx122_0)).trans hx122_0
                 replace hx122_1 := (HB.out.cell (ze w _ hx122_1)).trans hx122_1
                 replace hx122_2 := (HB.out.cell (ze w _ hx122_2)).trans hx122_2
                 have HR122_2 := za hi122_2
                 have HC122_2 := za hl122_2
                 clear hi122_2 hl122_2
                 replace p122 := eq_true p122
                 replace q122 := eq_true q122
                 have hcz26_0 : wr.cell? ⟨gb118, 0, none⟩ = some (.string ((rd_T75 l0 x5_2).f0)) := (zm BK118.out 0).trans rfl
                 have hcz26_1 : wr.cell? ⟨gb118, 1, none⟩ = some (.int .i64 ((rd_T75 l0 x5_2).f1)) := (zm BK118.out 1).trans rfl
                 have hcz26_2 : wr.cell? ⟨gb118, 2, none⟩ = some (.slice A117_2 ((rd_T75 l0 x5_2).f2).length c117_2) := (zm BK118.out 2).trans rfl
                 have hfz26_0 := zj BK118.out 0
                 have hfz26_1 := zj BK118.out 1
                 have hfz26_2 := zj BK118.out 2
                 go_wp2
                 repeat (go_quiet (fail); try go_wp2)
                 go_roundg k4
                 case measure => have := HJ2.out; have := HK2.out; have := HJ8.out; have := HK4.out; omega
                 case rel => exact ⟨(wrap64 (x7_4 + 1)), zG82, H', ⟨by have := HJ2.out; have := HK2.out; have := HJ8.out; have := HK4.out; omega⟩, ⟨by (with_reducible repeat (first | refine zh ?_ _ | refine zi ?_ | refine zg ?_ _)); exact BK118.out⟩, ⟨by repeat (first | (with_reducible first | exact HB.out | apply zd | apply zb | apply zc | refine zf ?_ GE118.out) | exact HB.out)⟩⟩
               ·rw [if_neg c23] at H
                exact absurd H (by simp)
              ·rw [if_neg c22] at H
               exact absurd H (by simp)
             ·rw [if_neg c21] at H
              have c21b0 : decide (x7_4 < x5_2) = false := decide_eq_false c21
              clear c21
              have H' := za H
              clear H
              go_wp2
              repeat (go_quiet (fail); try go_wp2)
              go_roundg k4
              case measure => have := HJ2.out; have := HK2.out; have := HJ8.out; have := HK4.out; omega
              case rel => exact ⟨(wrap64 (x5_2 + 1)), zG82, H', ⟨by have := HJ2.out; have := HK2.out; have := HJ8.out; have := HK4.out; omega⟩, ⟨by repeat (first | (with_reducible first | exact HB.out | apply zd | apply zb | apply zc | refine zf ?_ GE118.out) | exact HB.out)⟩⟩
       ·rw [if_neg c8] at H
        exact absurd H (by simp)
      ·rw [if_neg c7] at H
       have c7b0 : decide (x5_2 < (l0.length : Int)) = false := decide_eq_false c7
       clear c7
       obtain rfl := Option.some.inj H
       go_wp2
       repeat (go_quiet (fail); try go_wp2)
       go_ret
       exact ⟨by first | rfl | (simp [errW_none, errW_some] <;> rfl) | (simp [*, errW_none, errW_some] <;> rfl), by repeat (first | (with_reducible first | exact HB.out | apply zd | apply zb | apply zc) | exact HB.out)⟩

/-! ### spec_l23Has: function 38 -/
def spec_l23Has.l0 : Nat → Int → ByteArray → Int → List (S76) → ByteArray → Int → Option (Bool)
 | 0, _, _, _, _, _, _ => none
 | k + 1, x5, x124000, x124001, x124002, x125000, x125001 => if x5 < (x124002.length : Int) then (if 0 ≤ x5 then (if ((rd_T76 x124002 x5).f0).toList = x125000.toList then (some (decide (((rd_T76 x124002 x5).f1) ≥ x125001))) else (spec_l23Has.l0 k (wrap64 (x5 + 1)) x124000 x124001 x124002 x125000 x125001)) else (none)) else (some false)
def spec_l23Has.f (k : Nat) (a0_0 : ByteArray) (a0_1 : Int) (l0_2 : List (S76)) (a1_0 : ByteArray) (a1_1 : Int) : Option (Bool) := spec_l23Has.l0 k 0 a0_0 a0_1 l0_2 a1_0 a1_1
theorem spec_l23Has.mono_l : ∀ k, (∀ y0 y1 y2 y3 y4 y5, LeO (spec_l23Has.l0 k y0 y1 y2 y3 y4 y5) (spec_l23Has.l0 (k + 1) y0 y1 y2 y3 y4 y5))
 | 0 => fun _ _ _ _ _ _ r h => by simp [spec_l23Has.l0] at h
 | k + 1 => by
  have ih0 := spec_l23Has.mono_l k
  ·intro y0 y1 y2 y3 y4 y5
   unfold spec_l23Has.l0
   repeat' first
   | (with_reducible exact ih0 _ _ _ _ _ _)
   | (with_reducible exact LeO.refl _)
   | (with_reducible exact LeO.none _)
   | (with_reducible refine LeO.ite ?_ ?_)
   | (with_reducible refine LeO.bind ?_ (fun _ => ?_))
   | exact ih0 _ _ _ _ _ _
   | exact LeO.none _
   | refine LeO.ite ?_ ?_
   | refine LeO.bind ?_ (fun _ => ?_)
theorem spec_l23Has.mono : ∀ a0 a1 a2 a3 a4 k, LeO (spec_l23Has.f k a0 a1 a2 a3 a4) (spec_l23Has.f (k + 1) a0 a1 a2 a3 a4) := by
 intro a0 a1 a2 a3 a4 k
 have ih0 := spec_l23Has.mono_l k
 unfold spec_l23Has.f
 repeat' first
   | (with_reducible exact ih0 _ _ _ _ _ _)
   | (with_reducible exact LeO.refl _)
   | (with_reducible exact LeO.none _)
   | (with_reducible refine LeO.ite ?_ ?_)
   | (with_reducible refine LeO.bind ?_ (fun _ => ?_))
   | exact ih0 _ _ _ _ _ _
   | exact LeO.none _
   | refine LeO.ite ?_ ?_
   | refine LeO.bind ?_ (fun _ => ?_)
set_option maxHeartbeats 8000000 in
set_option maxRecDepth 100000 in
theorem spec_l23Has.calls (k : Nat) (a0_0 : ByteArray) (a0_1 : Int) (A0_2 : Option Addr) (c0_2 : Nat) (l0_2 : List (S76)) (a1_0 : ByteArray) (a1_1 : Int) (r : Bool) (w : World) (hr0_2 : Kd.C k76 w A0_2 l0_2.length l0_2) (hc0_2 : l0_2.length ≤ c0_2) (h : spec_l23Has.f k a0_0 a0_1 l0_2 a1_0 a1_1 = some r) :
  Calls Try.prog 38 #[.agg #[.string a0_0, .int .i64 a0_1, .slice A0_2 l0_2.length c0_2], .agg #[.string a1_0, .int .i64 a1_1]] w fun e w' => e = .returned (.bool r) ∧ Below w.heap.size w w' := by
 have hu75 := Try.underlying75
 have hu76 := Try.underlying76
 have HR0_2 := za hr0_2
 have HC0_2 := za hc0_2
 clear hr0_2 hc0_2
 have HB := za (Below.refl w.heap.size w)
 have H : (spec_l23Has.l0 k 0 a0_0 a0_1 l0_2 a1_0 a1_1) = some r := h
 clear h
 have H' := za H
 clear H
 go_enter Try.func38, Try.ntmps38
 go_wp2_with (first | ((with_reducible refine gate_dst (N := 2) rfl ?_); refine box_event ?hg (N := 2) ?hd (cs := #[.string a0_0, .int .i64 a0_1, .slice A0_2 l0_2.length c0_2]) (t := 75) ?hr ?_; (case hd => rfl); (case hg => rfl); (case hr => first | (go_simp; done) | (go_simp; rfl)); intro gb123 hg w3 hbox hb; have n0_ := za (zq zG72 hb); have n1_ := za (hbox); have n2_ := za ((by rw [hg]; exact (zo zG72) : w.heap.size ≤ gb123)); have n3_ := za ((by rw [hg]; exact (zo zG72) : w.heap.size ≤ gb123)); clear HB; have HB := n0_; have BK123 := n1_; have GW123 := n2_; have GE123 := n3_; clear n0_ n1_ n2_ n3_; clear hb hbox hg) | ((with_reducible refine gate_dst (N := 3) rfl ?_); refine box_event ?hg (N := 3) ?hd (cs := #[.string a1_0, .int .i64 a1_1]) (t := 76) ?hr ?_; (case hd => rfl); (case hg => rfl); (case hr => first | (go_simp; done) | (go_simp; rfl)); intro gb124 hg w4 hbox hb; have n0_ := za (zr (g := gb123) (o := .cells #[.string a0_0, .int .i64 a0_1, .slice A0_2 l0_2.length c0_2] 75 (0, 0)) (by (with_reducible repeat (first | refine zh ?_ _ | refine zi ?_ | refine zg ?_ _)); exact BK123.out) hb); have n1_ := za (zq (by repeat (first | (with_reducible first | exact HB.out | apply zd | apply zb | apply zc | refine zf ?_ GE123.out) | exact HB.out)) hb); have n2_ := za (hbox); have n3_ := za ((by rw [hg]; exact (zo (by repeat (first | (with_reducible first | exact HB.out | apply zd | apply zb | apply zc | refine zf ?_ GE123.out) | exact HB.out))) : w.heap.size ≤ gb124)); have n4_ := za ((by rw [hg]; exact (zo (by repeat (first | (with_reducible first | exact HB.out | apply zd | apply zb | apply zc | refine zf ?_ GE123.out) | exact HB.out))) : w.heap.size ≤ gb124)); have n5_ := za ((by rw [hg]; exact Nat.ne_of_lt (zad (g := gb123) (o := .cells #[.string a0_0, .int .i64 a0_1, .slice A0_2 l0_2.length c0_2] 75 (0, 0)) (by (with_reducible repeat (first | refine zh ?_ _ | refine zi ?_ | refine zg ?_ _)); exact BK123.out)) : gb123 ≠ gb124)); have n6_ := za ((by rw [hg]; exact Nat.ne_of_gt (zad (g := gb123) (o := .cells #[.string a0_0, .int .i64 a0_1, .slice A0_2 l0_2.length c0_2] 75 (0, 0)) (by (with_reducible repeat (first | refine zh ?_ _ | refine zi ?_ | refine zg ?_ _)); exact BK123.out)) : gb124 ≠ gb123)); clear BK123; clear HB; have BK123 := n0_; have HB := n1_; have BK124 := n2_; have GW124 := n3_; have GE124 := n4_; have NB123_124 := n5_; have NB124_123 := n6_; clear n0_ n1_ n2_ n3_ n4_ n5_ n6_; clear hb hbox hg))
 repeat (go_quiet (first | ((with_reducible refine gate_dst (N := 2) rfl ?_); refine box_event ?hg (N := 2) ?hd (cs := #[.string a0_0, .int .i64 a0_1, .slice A0_2 l0_2.length c0_2]) (t := 75) ?hr ?_; (case hd => rfl); (case hg => rfl); (case hr => first | (go_simp; done) | (go_simp; rfl)); intro gb123 hg w3 hbox hb; have n0_ := za (zq zG72 hb); have n1_ := za (hbox); have n2_ := za ((by rw [hg]; exact (zo zG72) : w.heap.size ≤ gb123)); have n3_ := za ((by rw [hg]; exact (zo zG72) : w.heap.size ≤ gb123)); clear HB; have HB := n0_; have BK123 := n1_; have GW123 := n2_; have GE123 := n3_; clear n0_ n1_ n2_ n3_; clear hb hbox hg) | ((with_reducible refine gate_dst (N := 3) rfl ?_); refine box_event ?hg (N := 3) ?hd (cs := #[.string a1_0, .int .i64 a1_1]) (t := 76) ?hr ?_; (case hd => rfl); (case hg => rfl); (case hr => first | (go_simp; done) | (go_simp; rfl)); intro gb124 hg w4 hbox hb; have n0_ := za (zr (g := gb123) (o := .cells #[.string a0_0, .int .i64 a0_1, .slice A0_2 l0_2.length c0_2] 75 (0, 0)) (by (with_reducible repeat (first | refine zh ?_ _ | refine zi ?_ | refine zg ?_ _)); exact BK123.out) hb); have n1_ := za (zq (by repeat (first | (with_reducible first | exact HB.out | apply zd | apply zb | apply zc | refine zf ?_ GE123.out) | exact HB.out)) hb); have n2_ := za (hbox); have n3_ := za ((by rw [hg]; exact (zo (by repeat (first | (with_reducible first | exact HB.out | apply zd | apply zb | apply zc | refine zf ?_ GE123.out) | exact HB.out))) : w.heap.size ≤ gb124)); have n4_ := za ((by rw [hg]; exact (zo (by repeat (first | (with_reducible first | exact HB.out | apply zd | apply zb | apply zc | refine zf ?_ GE123.out) | exact HB.out))) : w.heap.size ≤ gb124)); have n5_ := za ((by rw [hg]; exact Nat.ne_of_lt (zad (g := gb123) (o := .cells #[.string a0_0, .int .i64 a0_1, .slice A0_2 l0_2.length c0_2] 75 (0, 0)) (by (with_reducible repeat (first | refine zh ?_ _ | refine zi ?_ | refine zg ?_ _)); exact BK123.out)) : gb123 ≠ gb124)); have n6_ := za ((by rw [hg]; exact Nat.ne_of_gt (zad (g := gb123) (o := .cells #[.string a0_0, .int .i64 a0_1, .slice A0_2 l0_2.length c0_2] 75 (0, 0)) (by (with_reducible repeat (first | refine zh ?_ _ | refine zi ?_ | refine zg ?_ _)); exact BK123.out)) : gb124 ≠ gb123)); clear BK123; clear HB; have BK123 := n0_; have HB := n1_; have BK124 := n2_; have GW124 := n3_; have GE124 := n4_; have NB123_124 := n5_; have NB124_123 := n6_; clear n0_ n1_ n2_ n3_ n4_ n5_ n6_; clear hb hbox hg)); try go_wp2_with (first | ((with_reducible refine gate_dst (N := 2) rfl ?_); refine box_event ?hg (N := 2) ?hd (cs := #[.string a0_0, .int .i64 a0_1, .slice A0_2 l0_2.length c0_2]) (t := 75) ?hr ?_; (case hd => rfl); (case hg => rfl); (case hr => first | (go_simp; done) | (go_simp; rfl)); intro gb123 hg w3 hbox hb; have n0_ := za (zq zG72 hb); have n1_ := za (hbox); have n2_ := za ((by rw [hg]; exact (zo zG72) : w.heap.size ≤ gb123)); have n3_ := za ((by rw [hg]; exact (zo zG72) : w.heap.size ≤ gb123)); clear HB; have HB := n0_; have BK123 := n1_; have GW123 := n2_; have GE123 := n3_; clear n0_ n1_ n2_ n3_; clear hb hbox hg) | ((with_reducible refine gate_dst (N := 3) rfl ?_); refine box_event ?hg (N := 3) ?hd (cs := #[.string a1_0, .int .i64 a1_1]) (t := 76) ?hr ?_; (case hd => rfl); (case hg => rfl); (case hr => first | (go_simp; done) | (go_simp; rfl)); intro gb124 hg w4 hbox hb; have n0_ := za (zr (g := gb123) (o := .cells #[.string a0_0, .int .i64 a0_1, .slice A0_2 l0_2.length c0_2] 75 (0, 0)) (by (with_reducible repeat (first | refine zh ?_ _ | refine zi ?_ | refine zg ?_ _)); exact BK123.out) hb); have n1_ := za (zq (by repeat (first | (with_reducible first | exact HB.out | apply zd | apply zb | apply zc | refine zf ?_ GE123.out) | exact HB.out)) hb); have n2_ := za (hbox); have n3_ := za ((by rw [hg]; exact (zo (by repeat (first | (with_reducible first | exact HB.out | apply zd | apply zb | apply zc | refine zf ?_ GE123.out) | exact HB.out))) : w.heap.size ≤ gb124)); have n4_ := za ((by rw [hg]; exact (zo (by repeat (first | (with_reducible first | exact HB.out | apply zd | apply zb | apply zc | refine zf ?_ GE123.out) | exact HB.out))) : w.heap.size ≤ gb124)); have n5_ := za ((by rw [hg]; exact Nat.ne_of_lt (zad (g := gb123) (o := .cells #[.string a0_0, .int .i64 a0_1, .slice A0_2 l0_2.length c0_2] 75 (0, 0)) (by (with_reducible repeat (first | refine zh ?_ _ | refine zi ?_ | refine zg ?_ _)); exact BK123.out)) : gb123 ≠ gb124)); have n6_ := za ((by rw [hg]; exact Nat.ne_of_gt (zad (g := gb123) (o := .cells #[.string a0_0, .int .i64 a0_1, .slice A0_2 l0_2.length c0_2] 75 (0, 0)) (by (with_reducible repeat (first | refine zh ?_ _ | refine zi ?_ | refine zg ?_ _)); exact BK123.out)) : gb124 ≠ gb123)); clear BK123; clear HB; have BK123 := n0_; have HB := n1_; have BK124 := n2_; have GW124 := n3_; have GE124 := n4_; have NB123_124 := n5_; have NB124_123 := n6_; clear n0_ n1_ n2_ n3_ n4_ n5_ n6_; clear hb hbox hg)))
 go_loopg [5] k (fun kq v5 w' => ∃ (x5_1 : Int), v5 = .int .i64 x5_1 ∧ Aside0 (spec_l23Has.l0 kq x5_1 a0_0 a0_1 l0_2 a1_0 a1_1 = some r) ∧ Aside0 (kq ≤ k) ∧ Aside0 (w'.heap[gb123]? = some (.cells #[.string a0_0, .int .i64 a0_1, (.slice A0_2 l0_2.length c0_2)] 75 (0, 0))) ∧ Aside0 (w'.heap[gb124]? = some (.cells #[.string a1_0, .int .i64 a1_1] 76 (0, 0))) ∧ Aside0 (Below w.heap.size w w'))
 case atStart => exact ⟨(0), zG82, H', ⟨Nat.le_refl _⟩, ⟨by (with_reducible repeat (first | refine zh ?_ _ | refine zi ?_ | refine zg ?_ _)); exact BK123.out⟩, ⟨by (with_reducible repeat (first | refine zh ?_ _ | refine zi ?_ | refine zg ?_ _)); exact BK124.out⟩, ⟨by repeat (first | (with_reducible first | exact HB.out | apply zd | apply zb | apply zc | refine zf ?_ GE123.out | refine zf ?_ GE124.out) | exact HB.out)⟩⟩
 case round =>
  clear H'
  try clear p2
  try clear c3
  obtain ⟨x5_1, rfl, HA, HK1, BK123, BK124, HB⟩ := hrel
  cases gk with
  | zero => exact absurd HA.out (by simp [spec_l23Has.l0])
  | succ k1 =>
   have H := HA.out
   clear HA
   simp only [spec_l23Has.l0] at H
   by_cases c5 : x5_1 < (l0_2.length : Int)
   ·rw [if_pos c5] at H
    have c5b0 : decide (x5_1 < (l0_2.length : Int)) = true := decide_eq_true c5
    clear c5
    by_cases c6 : 0 ≤ x5_1
    ·rw [if_pos c6] at H
     have c6b0 : decide (0 ≤ x5_1) = true := decide_eq_true c6
     clear c6
     by_cases c7 : ((rd_T76 l0_2 x5_1).f0).toList = a1_0.toList
     ·rw [if_pos c7] at H
      have c7b0 : (((rd_T76 l0_2 x5_1).f0).toList == a1_0.toList) = true := beq_iff_eq.mpr c7
      have c7b1 : (((rd_T76 l0_2 x5_1).f0).toList != a1_0.toList) = false := bne_eq_false_iff_eq.mpr c7
      clear c7
      obtain rfl := Option.some.inj H
      have hnb8 := NB123_124.out
      have hnc8 := NB124_123.out
      have hcz9_0 : wr.cell? ⟨gb123, 0, none⟩ = some (.string a0_0) := (zm BK123.out 0).trans rfl
      have hcz9_1 : wr.cell? ⟨gb123, 1, none⟩ = some (.int .i64 a0_1) := (zm BK123.out 1).trans rfl
      have hcz9_2 : wr.cell? ⟨gb123, 2, none⟩ = some (.slice A0_2 l0_2.length c0_2) := (zm BK123.out 2).trans rfl
      have hfz9_0 := zj BK123.out 0
      have hfz9_1 := zj BK123.out 1
      have hfz9_2 := zj BK123.out 2
      have p125 : 0 ≤ (x5_1 : Int) := zO
      have q125 : x5_1 < (l0_2.length : Int) := zO
      obtain ⟨ad125, e125, hx125_0, hx125_1⟩ := at_T76 HR0_2.out x5_1 p125 q125
      cases e125
      replace hx125_0 := (HB.out.cell (ze w _ hx125_0)).trans hx125_0
      replace hx125_1 := (HB.out.cell (ze w _ hx125_1)).trans hx125_1
      replace p125 := eq_true p125
      replace q125 := eq_true q125
      have hcz10_0 : wr.cell? ⟨gb124, 0, none⟩ = some (.string a1_0) := (zm BK124.out 0).trans rfl
      have hcz10_1 : wr.cell? ⟨gb124, 1, none⟩ = some (.int .i64 a1_1) := (zm BK124.out 1).trans rfl
      have hfz10_0 := zj BK124.out 0
      have hfz10_1 := zj BK124.out 1
      have p126 : 0 ≤ (x5_1 : Int) := zO
      have q126 : x5_1 < (l0_2.length : Int) := zO
      obtain ⟨ad126, e126, hx126_0, hx126_1⟩ := at_T76 HR0_2.out x5_1 p126 q126
      obtain rfl : ad125 = ad126 := (by injection e126)
      replace hx126_0 := (HB.out.cell (ze w _ hx126_0)).trans hx126_0
      replace hx126_1 := (HB.out.cell (ze w _ hx126_1)).trans hx126_1
      replace p126 := eq_true p126
      replace q126 := eq_true q126
      go_wp2
      repeat (go_quiet (fail); try go_wp2)
      go_ret
      exact ⟨by first | rfl | (simp [errW_none, errW_some] <;> rfl) | (simp [*, errW_none, errW_some] <;> rfl), by repeat (first | (with_reducible first | exact HB.out | apply zd | apply zb | apply zc | refine zf ?_ GE123.out | refine zf ?_ GE124.out) | exact HB.out)⟩
     ·rw [if_neg c7] at H
      have c7b0 : (((rd_T76 l0_2 x5_1).f0).toList == a1_0.toList) = false := beq_eq_false_iff_ne.mpr c7
      have c7b1 : (((rd_T76 l0_2 x5_1).f0).toList != a1_0.toList) = true := bne_iff_ne.mpr c7
      have H' := za H
      clear H
      have hnb11 := NB123_124.out
      have hnc11 := NB124_123.out
      have hcz12_0 : wr.cell? ⟨gb123, 0, none⟩ = some (.string a0_0) := (zm BK123.out 0).trans rfl
      have hcz12_1 : wr.cell? ⟨gb123, 1, none⟩ = some (.int .i64 a0_1) := (zm BK123.out 1).trans rfl
      have hcz12_2 : wr.cell? ⟨gb123, 2, none⟩ = some (.slice A0_2 l0_2.length c0_2) := (zm BK123.out 2).trans rfl
      have hfz12_0 := zj BK123.out 0
      have hfz12_1 := zj BK123.out 1
      have hfz12_2 := zj BK123.out 2
      have p125 : 0 ≤ (x5_1 : Int) := zO
      have q125 : x5_1 < (l0_2.length : Int) := zO
      obtain ⟨ad125, e125, hx125_0, hx125_1⟩ := at_T76 HR0_2.out x5_1 p125 q125
      cases e125
      replace hx125_0 := (HB.out.cell (ze w _ hx125_0)).trans hx125_0
      replace hx125_1 := (HB.out.cell (ze w _ hx125_1)).trans hx125_1
      replace p125 := eq_true p125
      replace q125 := eq_true q125
      have hcz13_0 : wr.cell? ⟨gb124, 0, none⟩ = some (.string a1_0) := (zm BK124.out 0).trans rfl
      have hcz13_1 : wr.cell? ⟨gb124, 1, none⟩ = some (.int .i64 a1_1) := (zm BK124.out 1).trans rfl
      have hfz13_0 := zj BK124.out 0
      have hfz13_1 := zj BK124.out 1
      go_wp2
      repeat (go_quiet (fail); try go_wp2)
      go_roundg k1
      case measure => have := HK1.out; omega
      case rel => exact ⟨(wrap64 (x5_1 + 1)), zG82, H', ⟨by have := HK1.out; omega⟩, ⟨by (with_reducible repeat (first | refine zh ?_ _ | refine zi ?_ | refine zg ?_ _)); exact BK123.out⟩, ⟨by (with_reducible repeat (first | refine zh ?_ _ | refine zi ?_ | refine zg ?_ _)); exact BK124.out⟩, ⟨by repeat (first | (with_reducible first | exact HB.out | apply zd | apply zb | apply zc | refine zf ?_ GE123.out | refine zf ?_ GE124.out) | exact HB.out)⟩⟩
    ·rw [if_neg c6] at H
     exact absurd H (by simp)
   ·rw [if_neg c5] at H
    have c5b0 : decide (x5_1 < (l0_2.length : Int)) = false := decide_eq_false c5
    clear c5
    obtain rfl := Option.some.inj H
    have hnb14 := NB123_124.out
    have hnc14 := NB124_123.out
    have hcz15_0 : wr.cell? ⟨gb123, 0, none⟩ = some (.string a0_0) := (zm BK123.out 0).trans rfl
    have hcz15_1 : wr.cell? ⟨gb123, 1, none⟩ = some (.int .i64 a0_1) := (zm BK123.out 1).trans rfl
    have hcz15_2 : wr.cell? ⟨gb123, 2, none⟩ = some (.slice A0_2 l0_2.length c0_2) := (zm BK123.out 2).trans rfl
    have hfz15_0 := zj BK123.out 0
    have hfz15_1 := zj BK123.out 1
    have hfz15_2 := zj BK123.out 2
    go_wp2
    repeat (go_quiet (fail); try go_wp2)
    go_ret
    exact ⟨by first | rfl | (simp [errW_none, errW_some] <;> rfl) | (simp [*, errW_none, errW_some] <;> rfl), by repeat (first | (with_reducible first | exact HB.out | apply zd | apply zb | apply zc | refine zf ?_ GE123.out | refine zf ?_ GE124.out) | exact HB.out)⟩

end Go.Proofs.Ytjibigpdbpipcaa.L
