-- squeezed
-- made by pp.py (wip/tools) out of the translation; Lean checks it
import Derived.Test.YtojncbpeeboooaaY0
import Derived.Test.YtojncbpeeboooaaY1
namespace Go.Proofs.Ytojncbpeeboooaa.Y
open Go.RowKit Go.Proofs.YtojncbpeeboooaaW.PrintWords Go.Proofs.YtojncbpeeboooaaW.PrintLast Go.Proofs.YtojncbpeeboooaaW.PrintMore
attribute [local go_sem] max2_int min2_int max_two min_two max_three min_three max_four min_four   -- for this text's walks alone
set_option linter.unusedVariables false
set_option linter.unusedSimpArgs false


/-! ### spec_ShiftsOf: function 28 -/
mutual
def spec_ShiftsOf.l0 : Nat → List (S139) → Int → Int → List Int → Int → Int → Option ((List (S139)) × (List (S72)) × List Int)
 | 0, _, _, _, _, _, _ => none
 | k + 1, x6, x7, x8, x139000, x139001, x139002 => if x8 > 0 then ((spec_l00Src_next.f x139000 x139001 x139002 90).bind fun bt151 => ((spec_l00Src_skill.f x139000 bt151.2.1 bt151.2.2).bind fun bt154 => (if x6.length < 4398046511104 then ((spec_l00Src_next.f x139000 bt154.2.1 bt154.2.2 120).bind fun bt160 => (spec_ShiftsOf.l0 k (x6 ++ [(⟨x7, wrap64 ((wrap64 (x7 + 30)) + bt151.1), bt154.1⟩ : S139)]) (wrap64 (x7 + bt160.1)) (wrap64 (x8 - 1)) x139000 bt160.2.1 bt160.2.2)) else (none)))) else ((spec_l00Src_next.f x139000 x139001 x139002 4).bind fun bt166 => (spec_ShiftsOf.l1 k x6 (([] : List (S72))) (wrap64 (1 + bt166.1)) x139000 bt166.2.1 bt166.2.2))
def spec_ShiftsOf.l1 : Nat → List (S139) → List (S72) → Int → List Int → Int → Int → Option ((List (S139)) × (List (S72)) × List Int)
 | 0, _, _, _, _, _, _ => none
 | k + 1, x6, x9, x10, x139000, x139001, x139002 => if x10 > 0 then ((spec_l00Digits.f k (x9.length : Int)).bind fun t169 => (if 1 + t169.size ≤ 9223372036854775807 then ((spec_l00Src_next.f x139000 x139001 x139002 400).bind fun bt170 => ((spec_l00Src_next.f x139000 bt170.2.1 bt170.2.2 5).bind fun bt173 => ((spec_l00Src_next.f x139000 bt173.2.1 bt173.2.2 9).bind fun bt176 => ((some (([(⟨#[116, 105, 108, 108]⟩ : ByteArray)] : List ByteArray) : List ByteArray)).bind fun y179 => ((spec_l00Src_chance.f x139000 bt176.2.1 bt176.2.2 3).bind fun bt183 => (if bt183.1 = true then (if x9.length < 2199023255552 then (spec_ShiftsOf.l1 k x6 (x9 ++ [(⟨(⟨#[119]⟩ : ByteArray) ++ t169, wrap64 (60 + bt170.1), wrap64 (15 * bt173.1), wrap64 (1 + bt176.1), y179⟩ : S72)]) (wrap64 (x10 - 1)) x139000 bt183.2.1 bt183.2.2) else (none)) else (if y179.length < 8796093022208 then (if x9.length < 2199023255552 then (spec_ShiftsOf.l1 k x6 (x9 ++ [(⟨(⟨#[119]⟩ : ByteArray) ++ t169, wrap64 (60 + bt170.1), wrap64 (15 * bt173.1), wrap64 (1 + bt176.1), (y179 ++ [(⟨#[98, 114, 101, 97, 100]⟩ : ByteArray)])⟩ : S72)]) (wrap64 (x10 - 1)) x139000 bt183.2.1 bt183.2.2) else (none)) else (none)))))))) else (none))) else (spec_ShiftsOf.l2 k x6 x9 (([] : List Int)) 0 x139000 x139001 x139002)
def spec_ShiftsOf.l2 : Nat → List (S139) → List (S72) → List Int → Int → List Int → Int → Int → Option ((List (S139)) × (List (S72)) × List Int)
 | 0, _, _, _, _, _, _, _ => none
 | k + 1, x6, x9, x12, x13, x139000, x139001, x139002 => if x13 < (x6.length : Int) then ((spec_l00Src_next.f x139000 x139001 x139002 (x9.length : Int)).bind fun bt198 => (if x12.length < 17592186044416 then (spec_ShiftsOf.l2 k x6 x9 (x12 ++ [bt198.1]) (wrap64 (x13 + 1)) x139000 bt198.2.1 bt198.2.2) else (none))) else (some (x6, x9, x12))
end
def spec_ShiftsOf.f (k : Nat) (l0 : List Int) : Option ((List (S139)) × (List (S72)) × List Int) := (spec_l00Source.f l0).bind fun bt135 => ((spec_l00Src_next.f bt135.1 bt135.2.1 bt135.2.2 60).bind fun bt142 => ((spec_l00Src_size.f bt135.1 bt142.2.1 bt142.2.2 5).bind fun bt145 => ((spec_l00Src_next.f bt135.1 bt145.2.1 bt145.2.2 (wrap64 (bt145.1 + 1))).bind fun bt148 => (spec_ShiftsOf.l0 k (([] : List (S139))) bt142.1 bt148.1 bt135.1 bt148.2.1 bt148.2.2))))
theorem spec_ShiftsOf.mono_l : ∀ k, (∀ y0 y1 y2 y3 y4 y5, LeO (spec_ShiftsOf.l0 k y0 y1 y2 y3 y4 y5) (spec_ShiftsOf.l0 (k + 1) y0 y1 y2 y3 y4 y5)) ∧ (∀ y0 y1 y2 y3 y4 y5, LeO (spec_ShiftsOf.l1 k y0 y1 y2 y3 y4 y5) (spec_ShiftsOf.l1 (k + 1) y0 y1 y2 y3 y4 y5)) ∧ (∀ y0 y1 y2 y3 y4 y5 y6, LeO (spec_ShiftsOf.l2 k y0 y1 y2 y3 y4 y5 y6) (spec_ShiftsOf.l2 (k + 1) y0 y1 y2 y3 y4 y5 y6))
 | 0 => ⟨fun _ _ _ _ _ _ r h => by simp [spec_ShiftsOf.l0] at h, fun _ _ _ _ _ _ r h => by simp [spec_ShiftsOf.l1] at h, fun _ _ _ _ _ _ _ r h => by simp [spec_ShiftsOf.l2] at h⟩
 | k + 1 => by
  obtain ⟨ih0, ih1, ih2⟩ := spec_ShiftsOf.mono_l k
  refine ⟨?_, ?_, ?_⟩
  ·intro y0 y1 y2 y3 y4 y5
   unfold spec_ShiftsOf.l0
   repeat' first
   | (with_reducible exact ih0 _ _ _ _ _ _)
   | (with_reducible exact ih1 _ _ _ _ _ _)
   | (with_reducible exact ih2 _ _ _ _ _ _ _)
   | (with_reducible exact spec_l00Digits.mono _ _)
   | (with_reducible exact LeO.refl _)
   | (with_reducible exact LeO.none _)
   | (with_reducible refine LeO.ite ?_ ?_)
   | (with_reducible refine LeO.bind ?_ (fun _ => ?_))
   | exact ih0 _ _ _ _ _ _
   | exact ih1 _ _ _ _ _ _
   | exact ih2 _ _ _ _ _ _ _
   | exact spec_l00Digits.mono _ _
   | exact LeO.none _
   | refine LeO.ite ?_ ?_
   | refine LeO.bind ?_ (fun _ => ?_)
  ·intro y0 y1 y2 y3 y4 y5
   unfold spec_ShiftsOf.l1
   repeat' first
   | (with_reducible exact ih0 _ _ _ _ _ _)
   | (with_reducible exact ih1 _ _ _ _ _ _)
   | (with_reducible exact ih2 _ _ _ _ _ _ _)
   | (with_reducible exact spec_l00Digits.mono _ _)
   | (with_reducible exact LeO.refl _)
   | (with_reducible exact LeO.none _)
   | (with_reducible refine LeO.ite ?_ ?_)
   | (with_reducible refine LeO.bind ?_ (fun _ => ?_))
   | exact ih0 _ _ _ _ _ _
   | exact ih1 _ _ _ _ _ _
   | exact ih2 _ _ _ _ _ _ _
   | exact spec_l00Digits.mono _ _
   | exact LeO.none _
   | refine LeO.ite ?_ ?_
   | refine LeO.bind ?_ (fun _ => ?_)
  ·intro y0 y1 y2 y3 y4 y5 y6
   unfold spec_ShiftsOf.l2
   repeat' first
   | (with_reducible exact ih0 _ _ _ _ _ _)
   | (with_reducible exact ih1 _ _ _ _ _ _)
   | (with_reducible exact ih2 _ _ _ _ _ _ _)
   | (with_reducible exact spec_l00Digits.mono _ _)
   | (with_reducible exact LeO.refl _)
   | (with_reducible exact LeO.none _)
   | (with_reducible refine LeO.ite ?_ ?_)
   | (with_reducible refine LeO.bind ?_ (fun _ => ?_))
   | exact ih0 _ _ _ _ _ _
   | exact ih1 _ _ _ _ _ _
   | exact ih2 _ _ _ _ _ _ _
   | exact spec_l00Digits.mono _ _
   | exact LeO.none _
   | refine LeO.ite ?_ ?_
   | refine LeO.bind ?_ (fun _ => ?_)
theorem spec_ShiftsOf.mono : ∀ a0 k, LeO (spec_ShiftsOf.f k a0) (spec_ShiftsOf.f (k + 1) a0) := by
 intro a0 k
 obtain ⟨ih0, ih1, ih2⟩ := spec_ShiftsOf.mono_l k
 unfold spec_ShiftsOf.f
 repeat' first
   | (with_reducible exact ih0 _ _ _ _ _ _)
   | (with_reducible exact ih1 _ _ _ _ _ _)
   | (with_reducible exact ih2 _ _ _ _ _ _ _)
   | (with_reducible exact spec_l00Digits.mono _ _)
   | (with_reducible exact LeO.refl _)
   | (with_reducible exact LeO.none _)
   | (with_reducible refine LeO.ite ?_ ?_)
   | (with_reducible refine LeO.bind ?_ (fun _ => ?_))
   | exact ih0 _ _ _ _ _ _
   | exact ih1 _ _ _ _ _ _
   | exact ih2 _ _ _ _ _ _ _
   | exact spec_l00Digits.mono _ _
   | exact LeO.none _
   | refine LeO.ite ?_ ?_
   | refine LeO.bind ?_ (fun _ => ?_)
set_option maxHeartbeats 64000000 in
set_option maxRecDepth 100000 in
theorem spec_ShiftsOf.calls (k : Nat) (A0 : Option Addr) (c0 : Nat) (l0 : List Int) (r1 : List (S139)) (r2 : List (S72)) (r3 : List Int) (w : World) (hr0 : Kd.C (Kd.int .u8) w A0 l0.length l0) (hc0 : l0.length ≤ c0) (h : spec_ShiftsOf.f k l0 = some (r1, r2, r3)) :
  Calls Try.prog 28 #[.slice A0 l0.length c0] w fun e w' => ∃ v0_ v1_ v2_ : Value, e = .returned (.tuple #[v0_, v1_, v2_]) ∧ Kd.R k139 139 w' w.heap.size (fun _ => True) v0_ r1 ∧ Kd.S k72 72 w' w.heap.size (fun _ => True) v1_ r2 ∧ Kd.R (Kd.int .i64) 3 w' w.heap.size (fun _ => True) v2_ r3 ∧ Below w.heap.size w w' := by
 have hu139 := Try.underlying139
 have hu72 := Try.underlying72
 obtain ⟨HR0, HC0, HB⟩ := zD3 hr0 hc0 (Below.refl w.heap.size w)
 clear hr0 hc0
 have H : ((spec_l00Source.f l0).bind fun bt135 => ((spec_l00Src_next.f bt135.1 bt135.2.1 bt135.2.2 60).bind fun bt142 => ((spec_l00Src_size.f bt135.1 bt142.2.1 bt142.2.2 5).bind fun bt145 => ((spec_l00Src_next.f bt135.1 bt145.2.1 bt145.2.2 (wrap64 (bt145.1 + 1))).bind fun bt148 => (spec_ShiftsOf.l0 k (([] : List (S139))) bt142.1 bt148.1 bt135.1 bt148.2.1 bt148.2.2))))) = some (r1, r2, r3) := h
 clear h
 replace H := Option.bind_eq_some_iff.mp H
 obtain ⟨⟨t135, t136, t137⟩, A20, H⟩ := H
 replace H : ((spec_l00Src_next.f t135 t136 t137 60).bind fun bt142 => ((spec_l00Src_size.f t135 bt142.2.1 bt142.2.2 5).bind fun bt145 => ((spec_l00Src_next.f t135 bt145.2.1 bt145.2.2 (wrap64 (bt145.1 + 1))).bind fun bt148 => (spec_ShiftsOf.l0 k (([] : List (S139))) bt142.1 bt148.1 t135 bt148.2.1 bt148.2.2)))) = some (r1, r2, r3) := H
 have A2 := za A20
 clear A20
 obtain ⟨y139, hy139⟩ : ∃ y_ : List (S139), y_ = (([] : List (S139))) := ⟨_, rfl⟩
 replace H : ((spec_l00Src_next.f t135 t136 t137 60).bind fun bt142 => ((spec_l00Src_size.f t135 bt142.2.1 bt142.2.2 5).bind fun bt145 => ((spec_l00Src_next.f t135 bt145.2.1 bt145.2.2 (wrap64 (bt145.1 + 1))).bind fun bt148 => (spec_ShiftsOf.l0 k y139 bt142.1 bt148.1 t135 bt148.2.1 bt148.2.2)))) = some (r1, r2, r3) := by first | (rw [hy139]; with_reducible exact H) | (have H2_ := (Option.bind_some _ _).symm.trans H; rw [hy139]; with_reducible exact H2_) | (have H2_ := (Option.bind_some _ _).symm.trans H; with_reducible exact H2_) | with_reducible exact H | (rw [hy139]; exact H) | exact H
 have Ny139 := za hy139
 clear hy139
 replace H := Option.bind_eq_some_iff.mp H
 obtain ⟨⟨t142, t143, t144⟩, A30, H⟩ := H
 replace H : ((spec_l00Src_size.f t135 t143 t144 5).bind fun bt145 => ((spec_l00Src_next.f t135 bt145.2.1 bt145.2.2 (wrap64 (bt145.1 + 1))).bind fun bt148 => (spec_ShiftsOf.l0 k y139 t142 bt148.1 t135 bt148.2.1 bt148.2.2))) = some (r1, r2, r3) := H
 have A3 := za A30
 clear A30
 replace H := Option.bind_eq_some_iff.mp H
 obtain ⟨⟨t145, t146, t147⟩, A40, H⟩ := H
 replace H : ((spec_l00Src_next.f t135 t146 t147 (wrap64 (t145 + 1))).bind fun bt148 => (spec_ShiftsOf.l0 k y139 t142 bt148.1 t135 bt148.2.1 bt148.2.2)) = some (r1, r2, r3) := H
 have A4 := za A40
 clear A40
 replace H := Option.bind_eq_some_iff.mp H
 obtain ⟨⟨t148, t149, t150⟩, A50, H⟩ := H
 replace H : (spec_ShiftsOf.l0 k y139 t142 t148 t135 t149 t150) = some (r1, r2, r3) := H
 have A5 := za A50
 clear A50
 have H' := za H
 clear H
 go_enter Try.func28, Try.ntmps28
 go_wp2_with (first | ((with_reducible refine gate_callee (f := 55) rfl ?_); refine goesL_ (some 15) rfl rfl Try.func55 zG130 rfl #[.slice A0 l0.length c0] rfl zG93 ?_; (with_reducible refine (spec_l00Source.calls _ _ l0 t135 t136 t137 w _ ?side1 ?side2 ?side3 A2.out).mono ?_); (case side1 => repeat (first | (with_reducible first | exact HB.out | apply zi | apply zc | apply zh) | exact HB.out)); (case side2 => exact HR0.out); (case side3 => exact HC0.out); rintro e w6 ⟨g138, rfl, hi, hb, hb2⟩; refine ⟨_, rfl, ?_⟩; have n_ := zA_ (za (hb)) (za (hi)); clear HB; obtain ⟨HB, HI138⟩ := n_; (try clear hb); (try clear hb2); (try clear hk); (try clear hi)) | ((with_reducible refine gate_dst (N := 16) rfl ?_); refine zbh k139 _ 139 ?hg (N := 16) ?hd (xs := ([] : List (S139))) (inner := []) (ok := fun _ => True) (okp := fun _ => True) ?hr ?hp (fun _ hk => hk) trivial (Below.refl _ _) (Nat.le_refl _) (by simp) ?_; (case hd => rfl); (case hg => rfl); (case hr => exact zH125); (case hp => exact zH131); intro v140 w7 ho8 hb hg_ hnew_; clear hg_ hnew_; (first | rw [← Ny139.out] at ho8 | (simp only [Int.reduceToNat] at ho8; rw [← Ny139.out] at ho8)); have n_ := zA_ (za (zam ho8 (zo zG94))) (zA_ (za (IsS168.below zK212 hb)) (za (zr zG94 hb))); clear HI138 HB; obtain ⟨HO141, HI138, HB⟩ := n_; clear hb ho8) | ((with_reducible refine gate_callee (f := 56) rfl ?_); refine goesL_ (some 18) rfl rfl Try.func56 zG130 rfl #[.pointer (some ⟨g138, 0, none⟩), .int .i64 60] rfl zG93 ?_; (with_reducible refine (spec_l00Src_next.calls g138 t135 t136 t137 60 t142 t143 t144 w _ ?side1 ?side2 A3.out).mono ?_); (case side1 => exact zH42); (case side2 => exact zH75); rintro e w9 ⟨rfl, hi, hb, hk⟩; refine ⟨_, rfl, ?_⟩; have n_ := zA_ (za (zt (zbd (IsS168.apart (show IsS168 w _ g138 t135 t136 t137 from by repeat (first | (with_reducible first | exact HI138.out | apply IsS168.alloc | apply IsS168.drewN | apply IsS168.drew | apply IsS168.set_1 | apply IsS168.set_2) | exact HI138.out)) zK247 zG131) hk (fun _ h => h.2)) (fun _ h => h.1))) (zA_ (za (hb)) (za (hi))); clear HO141 HB HI138; obtain ⟨HO141, HB, HI138⟩ := n_; (try clear hb); (try clear hb2); (try clear hk); (try clear hi)) | ((with_reducible refine gate_callee (f := 57) rfl ?_); refine goesL_ (some 21) rfl rfl Try.func57 zG130 rfl #[.pointer (some ⟨g138, 0, none⟩), .int .i64 5] rfl zG93 ?_; (with_reducible refine (spec_l00Src_size.calls g138 t135 t143 t144 5 t145 t146 t147 w _ ?side1 ?side2 A4.out).mono ?_); (case side1 => exact zH42); (case side2 => exact zH75); rintro e w10 ⟨rfl, hi, hb, hk⟩; refine ⟨_, rfl, ?_⟩; have n_ := zA_ (za (zt (zbd (IsS168.apart (show IsS168 w _ g138 t135 t143 t144 from by repeat (first | (with_reducible first | exact HI138.out | apply IsS168.alloc | apply IsS168.drewN | apply IsS168.drew | apply IsS168.set_1 | apply IsS168.set_2) | exact HI138.out)) zK247 zG131) hk (fun _ h => h.2)) (fun _ h => h.1))) (zA_ (za (hb)) (za (hi))); clear HO141 HB HI138; obtain ⟨HO141, HB, HI138⟩ := n_; (try clear hb); (try clear hb2); (try clear hk); (try clear hi)) | ((with_reducible refine gate_callee (f := 56) rfl ?_); refine goesL_ (some 23) rfl rfl Try.func56 zG130 rfl #[.pointer (some ⟨g138, 0, none⟩), .int .i64 (wrap64 (t145 + 1))] rfl zG93 ?_; (with_reducible refine (spec_l00Src_next.calls g138 t135 t146 t147 (wrap64 (t145 + 1)) t148 t149 t150 w _ ?side1 ?side2 A5.out).mono ?_); (case side1 => exact zH42); (case side2 => exact zH75); rintro e w11 ⟨rfl, hi, hb, hk⟩; refine ⟨_, rfl, ?_⟩; have n_ := zA_ (za (zt (zbd (IsS168.apart (show IsS168 w _ g138 t135 t146 t147 from by repeat (first | (with_reducible first | exact HI138.out | apply IsS168.alloc | apply IsS168.drewN | apply IsS168.drew | apply IsS168.set_1 | apply IsS168.set_2) | exact HI138.out)) zK247 zG131) hk (fun _ h => h.2)) (fun _ h => h.1))) (zA_ (za (hb)) (za (hi))); clear HO141 HB HI138; obtain ⟨HO141, HB, HI138⟩ := n_; (try clear hb); (try clear hb2); (try clear hk); (try clear hi)))
 go_loopg [6, 7, 8] k (fun kq v6 v7 v8 w' => ∃ (x6_1 : List (S139)) (x7_1 : Int) (x8_1 : Int) (x139001_1 : Int) (x139002_1 : Int), v7 = .int .i64 x7_1 ∧ v8 = .int .i64 x8_1 ∧ Aside0 (spec_ShiftsOf.l0 kq x6_1 x7_1 x8_1 t135 x139001_1 x139002_1 = some (r1, r2, r3)) ∧ Aside0 (kq ≤ k) ∧ Aside0 (Kd.R k139 139 w' w.heap.size (fun _ => True) v6 x6_1) ∧ Aside0 (IsS168 w w' g138 t135 x139001_1 x139002_1) ∧ Aside0 (Below w.heap.size w w'))
 case atStart => exact ⟨(y139), (t142), (t148), (t149), (t150), zG129, zG129, H', ⟨Nat.le_refl _⟩, ⟨by (with_reducible repeat (first | apply zl | apply zm | apply zn)); exact HO141.out⟩, ⟨zH39⟩, ⟨zH72⟩⟩
 case round =>
  clear H'
  obtain ⟨x6_1, x7_1, x8_1, x139001_1, x139002_1, rfl, rfl, HA, HK1, HO_6, HI138, HB⟩ := hrel
  cases gk with
  | zero => exact absurd HA.out (by simp [spec_ShiftsOf.l0])
  | succ k1 =>
   have H := HA.out
   clear HA
   simp only [spec_ShiftsOf.l0] at H
   by_cases c12 : x8_1 > 0
   ·rw [if_pos c12] at H
    have c12b0 : decide (0 < x8_1) = true := decide_eq_true c12
    clear c12
    replace H := Option.bind_eq_some_iff.mp H
    obtain ⟨⟨t151, t152, t153⟩, A130, H⟩ := H
    replace H : ((spec_l00Src_skill.f t135 t152 t153).bind fun bt154 => (if x6_1.length < 4398046511104 then ((spec_l00Src_next.f t135 bt154.2.1 bt154.2.2 120).bind fun bt160 => (spec_ShiftsOf.l0 k1 (x6_1 ++ [(⟨x7_1, wrap64 ((wrap64 (x7_1 + 30)) + t151), bt154.1⟩ : S139)]) (wrap64 (x7_1 + bt160.1)) (wrap64 (x8_1 - 1)) t135 bt160.2.1 bt160.2.2)) else (none))) = some (r1, r2, r3) := H
    have A13 := za A130
    clear A130
    replace H := Option.bind_eq_some_iff.mp H
    obtain ⟨⟨t154, t155, t156⟩, A140, H⟩ := H
    replace H : (if x6_1.length < 4398046511104 then ((spec_l00Src_next.f t135 t155 t156 120).bind fun bt160 => (spec_ShiftsOf.l0 k1 (x6_1 ++ [(⟨x7_1, wrap64 ((wrap64 (x7_1 + 30)) + t151), t154⟩ : S139)]) (wrap64 (x7_1 + bt160.1)) (wrap64 (x8_1 - 1)) t135 bt160.2.1 bt160.2.2)) else (none)) = some (r1, r2, r3) := H
    have A14 := za A140
    clear A140
    by_cases c15 : x6_1.length < 4398046511104
    rotate_left
    ·rw [if_neg c15] at H
     exact absurd H (by simp)
    rw [if_pos c15] at H
    have LMc15 := za c15
    clear c15
    obtain ⟨y157, hy157⟩ : ∃ y_ : List (S139), y_ = (x6_1 ++ [(⟨x7_1, wrap64 ((wrap64 (x7_1 + 30)) + t151), t154⟩ : S139)]) := ⟨_, rfl⟩
    replace H : ((spec_l00Src_next.f t135 t155 t156 120).bind fun bt160 => (spec_ShiftsOf.l0 k1 y157 (wrap64 (x7_1 + bt160.1)) (wrap64 (x8_1 - 1)) t135 bt160.2.1 bt160.2.2)) = some (r1, r2, r3) := by first | (rw [hy157]; with_reducible exact H) | (have H2_ := (Option.bind_some _ _).symm.trans H; rw [hy157]; with_reducible exact H2_) | (have H2_ := (Option.bind_some _ _).symm.trans H; with_reducible exact H2_) | with_reducible exact H | (rw [hy157]; exact H) | exact H
    have Ny157 := za hy157
    clear hy157
    replace H := Option.bind_eq_some_iff.mp H
    obtain ⟨⟨t160, t161, t162⟩, A160, H⟩ := H
    replace H : (spec_ShiftsOf.l0 k1 y157 (wrap64 (x7_1 + t160)) (wrap64 (x8_1 - 1)) t135 t161 t162) = some (r1, r2, r3) := H
    have A16 := za A160
    clear A160
    have H' := za H
    clear H
    go_wp2_with (first | ((with_reducible refine gate_callee (f := 56) rfl ?_); refine goesL_ (some 33) rfl rfl Try.func56 zG130 rfl #[.pointer (some ⟨g138, 0, none⟩), .int .i64 90] rfl zG93 ?_; (with_reducible refine (spec_l00Src_next.calls g138 t135 x139001_1 x139002_1 90 t151 t152 t153 w _ ?side1 ?side2 A13.out).mono ?_); (case side1 => exact zH42); (case side2 => exact zH75); rintro e w17 ⟨rfl, hi, hb, hk⟩; refine ⟨_, rfl, ?_⟩; have n_ := zA_ (za (zt (zbd (IsS168.apart (show IsS168 w _ g138 t135 x139001_1 x139002_1 from by repeat (first | (with_reducible first | exact HI138.out | apply IsS168.alloc | apply IsS168.drewN | apply IsS168.drew | apply IsS168.set_1 | apply IsS168.set_2) | exact HI138.out)) zG117 zG131) hk (fun _ h => h.2)) (fun _ h => h.1))) (zA_ (za (hb)) (za (hi))); clear HO_6 HB HI138; obtain ⟨HO_6, HB, HI138⟩ := n_; (try clear hb); (try clear hk); (try clear hi)) | ((with_reducible refine gate_callee (f := 92) rfl ?_); refine goesL_ (some 36) rfl rfl Try.func92 zG130 rfl #[.pointer (some ⟨g138, 0, none⟩)] rfl zG93 ?_; (with_reducible refine (spec_l00Src_skill.calls g138 t135 t152 t153 t154 t155 t156 w _ ?side1 ?side2 A14.out).mono ?_); (case side1 => exact zH42); (case side2 => exact zH75); rintro e w18 ⟨rfl, hi, hb, hk⟩; refine ⟨_, rfl, ?_⟩; have n_ := zA_ (za (zt (zbd (IsS168.apart (show IsS168 w _ g138 t135 t152 t153 from by repeat (first | (with_reducible first | exact HI138.out | apply IsS168.alloc | apply IsS168.drewN | apply IsS168.drew | apply IsS168.set_1 | apply IsS168.set_2) | exact HI138.out)) zG117 zG131) hk (fun _ h => h.2)) (fun _ h => h.1))) (zA_ (za (hb)) (za (hi))); clear HO_6 HB HI138; obtain ⟨HO_6, HB, HI138⟩ := n_; (try clear hb); (try clear hk); (try clear hi)) | ((with_reducible refine gate_builtin (b := .append) (xs := #[.tmp 28, .tmp 38]) rfl ?_); at_builtin; refine zbx k139 (w0 := w) w.heap.size rfl (.tmp 28) (.tmp 38) 59 139 (.agg #[(.int .i64 0), (.int .i64 0), (.string ⟨#[]⟩)]) 32 rfl Try.underlying59 info139 rfl zG131 (by omega) u6 x6_1 (⟨x7_1, wrap64 ((wrap64 (x7_1 + 30)) + t151), t154⟩ : S139) [.int .i64 x7_1, .int .i64 (wrap64 ((wrap64 (x7_1 + 30)) + t151)), .string t154] (fun _ => True) (fun _ => False) rfl rfl ?aP (fun _ hk => hk.elim) ?aF ?aO ?aB ?aS ?aL ?_; (case aP => exact k139_mkM _ _ _ (⟨x7_1, wrap64 ((wrap64 (x7_1 + 30)) + t151), t154⟩ : S139)); (case aB => exact zG94); (case aF => exact (fun _ _ => trivial)); (case aO => exact zG117); (case aS => exact (zo zG94)); (case aL => have := LMc15.out; omega); intro v158 w19 ho hb hg hat; rw [← Ny157.out] at ho; have n_ := zA_ (za (IsS168.grown (show IsS168 w _ g138 t135 t155 t156 from by repeat (first | (with_reducible first | exact HI138.out | apply IsS168.alloc | apply IsS168.drewN | apply IsS168.drew | apply IsS168.set_1 | apply IsS168.set_2) | exact HI138.out)) hg (IsS168.own_ne HI138.out HO_6.out zG131))) (zA_ (za (hb)) (za (ho))); clear HI138 HB HO_6; obtain ⟨HI138, HB, HO159⟩ := n_; clear ho hb hg hat) | ((with_reducible refine gate_callee (f := 56) rfl ?_); refine goesL_ (some 42) rfl rfl Try.func56 zG130 rfl #[.pointer (some ⟨g138, 0, none⟩), .int .i64 120] rfl zG93 ?_; (with_reducible refine (spec_l00Src_next.calls g138 t135 t155 t156 120 t160 t161 t162 w _ ?side1 ?side2 A16.out).mono ?_); (case side1 => exact zH42); (case side2 => exact zH75); rintro e w20 ⟨rfl, hi, hb, hk⟩; refine ⟨_, rfl, ?_⟩; have n_ := zA_ (za (zt (zbd (IsS168.apart (show IsS168 w _ g138 t135 t155 t156 from by repeat (first | (with_reducible first | exact HI138.out | apply IsS168.alloc | apply IsS168.drewN | apply IsS168.drew | apply IsS168.set_1 | apply IsS168.set_2) | exact HI138.out)) (by (with_reducible repeat (first | apply zl | apply zm | apply zn)); exact HO159.out) zG131) hk (fun _ h => h.2)) (fun _ h => h.1))) (zA_ (za (hb)) (za (hi))); clear HO159 HB HI138; obtain ⟨HO159, HB, HI138⟩ := n_; (try clear hb); (try clear hk); (try clear hi)))
    go_roundg k1
    case measure => have := HK1.out; omega
    case rel => exact ⟨(y157), (wrap64 (x7_1 + t160)), (wrap64 (x8_1 - 1)), (t161), (t162), zG129, zG129, H', ⟨zH128⟩, ⟨by (with_reducible repeat (first | apply zl | apply zm | apply zn)); exact HO159.out⟩, ⟨zH39⟩, ⟨zH72⟩⟩
   rw [if_neg c12] at H
   have c12b0 : decide (0 < x8_1) = false := decide_eq_false c12
   clear c12
   obtain ⟨y163, hy163⟩ : ∃ y_ : List (S72), y_ = (([] : List (S72))) := ⟨_, rfl⟩
   replace H : ((spec_l00Src_next.f t135 x139001_1 x139002_1 4).bind fun bt166 => (spec_ShiftsOf.l1 k1 x6_1 y163 (wrap64 (1 + bt166.1)) t135 bt166.2.1 bt166.2.2)) = some (r1, r2, r3) := by first | (rw [hy163]; with_reducible exact H) | (have H2_ := (Option.bind_some _ _).symm.trans H; rw [hy163]; with_reducible exact H2_) | (have H2_ := (Option.bind_some _ _).symm.trans H; with_reducible exact H2_) | with_reducible exact H | (rw [hy163]; exact H) | exact H
   have Ny163 := za hy163
   clear hy163
   replace H := Option.bind_eq_some_iff.mp H
   obtain ⟨⟨t166, t167, t168⟩, A210, H⟩ := H
   replace H : (spec_ShiftsOf.l1 k1 x6_1 y163 (wrap64 (1 + t166)) t135 t167 t168) = some (r1, r2, r3) := H
   have A21 := za A210
   clear A210
   have H' := za H
   clear H
   go_wp2_with (first | ((with_reducible refine gate_dst (N := 44) rfl ?_); refine Kd.S_lit k72 _ 72 ?hg (N := 44) ?hd (xs := ([] : List (S72))) (inner := []) (ok := fun _ => True) (okp := fun _ => True) ?hr ?hp (fun _ hk => hk) trivial (Below.refl _ _) (Nat.le_refl _) (by simp) ?_; (case hd => rfl); (case hg => rfl); (case hr => exact zH125); (case hp => exact zH131); intro v164 w22 ho23 hb hg_ hnew_; clear hg_ hnew_; (first | rw [← Ny163.out] at ho23 | (simp only [Int.reduceToNat] at ho23; rw [← Ny163.out] at ho23)); have n_ := zA_ (za (zq zG117 hb)) (zA_ (za (Kd.S_lower ho23 (zo zG94))) (zA_ (za (IsS168.below zK212 hb)) (za (zr zG94 hb)))); clear HO_6 HI138 HB; obtain ⟨HO_6, HO165, HI138, HB⟩ := n_; clear hb ho23) | ((with_reducible refine gate_callee (f := 56) rfl ?_); refine goesL_ (some 46) rfl rfl Try.func56 zG130 rfl #[.pointer (some ⟨g138, 0, none⟩), .int .i64 4] rfl zG93 ?_; (with_reducible refine (spec_l00Src_next.calls g138 t135 x139001_1 x139002_1 4 t166 t167 t168 w _ ?side1 ?side2 A21.out).mono ?_); (case side1 => exact zH42); (case side2 => exact zH75); rintro e w24 ⟨rfl, hi, hb, hk⟩; refine ⟨_, rfl, ?_⟩; have n_ := zA_ (za (zt (zbd (IsS168.apart (show IsS168 w _ g138 t135 x139001_1 x139002_1 from by repeat (first | (with_reducible first | exact HI138.out | apply IsS168.alloc | apply IsS168.drewN | apply IsS168.drew | apply IsS168.set_1 | apply IsS168.set_2) | exact HI138.out)) zG117 zG131) hk (fun _ h => h.2)) (fun _ h => h.1))) (zA_ (za (zbc (zbo (IsS168.apartS (show IsS168 w _ g138 t135 x139001_1 x139002_1 from by repeat (first | (with_reducible first | exact HI138.out | apply IsS168.alloc | apply IsS168.drewN | apply IsS168.drew | apply IsS168.set_1 | apply IsS168.set_2) | exact HI138.out)) (by (with_reducible repeat (first | apply zau | apply zav | apply zax)); exact HO165.out) zG131) hk (fun _ h => h.2)) (fun _ h => h.1))) (zA_ (za (hb)) (za (hi)))); clear HO_6 HO165 HB HI138; obtain ⟨HO_6, HO165, HB, HI138⟩ := n_; (try clear hb); (try clear hk); (try clear hi)))
   go_loopg [9, 10] k1 (fun kq v9 v10 w' => ∃ (x9_2 : List (S72)) (x10_2 : Int) (x139001_2 : Int) (x139002_2 : Int), v10 = .int .i64 x10_2 ∧ Aside0 (spec_ShiftsOf.l1 kq x6_1 x9_2 x10_2 t135 x139001_2 x139002_2 = some (r1, r2, r3)) ∧ Aside0 (kq ≤ k1) ∧ Aside0 (Kd.R k139 139 w' w.heap.size (fun _ => True) u6 x6_1) ∧ Aside0 (Kd.S k72 72 w' w.heap.size (fun _ => True) v9 x9_2) ∧ Aside0 (IsS168 w w' g138 t135 x139001_2 x139002_2) ∧ Aside0 (Below w.heap.size w w'))
   case atStart => exact ⟨(y163), (wrap64 (1 + t166)), (t167), (t168), zG129, H', ⟨Nat.le_refl _⟩, ⟨zH118⟩, ⟨by (with_reducible repeat (first | apply zau | apply zav | apply zax)); exact HO165.out⟩, ⟨zH39⟩, ⟨zH72⟩⟩
   case round =>
    clear H'
    try clear c12
    try clear c12b0
    try clear c15
    obtain ⟨x9_2, x10_2, x139001_2, x139002_2, rfl, HA, HK2, HO_6, HO_9, HI138, HB⟩ := hrel
    cases gk with
    | zero => exact absurd HA.out (by simp [spec_ShiftsOf.l1])
    | succ k2 =>
     have H := HA.out
     clear HA
     simp only [spec_ShiftsOf.l1] at H
     by_cases c25 : x10_2 > 0
     ·rw [if_pos c25] at H
      have c25b0 : decide (0 < x10_2) = true := decide_eq_true c25
      clear c25
      replace H := Option.bind_eq_some_iff.mp H
      obtain ⟨t169, A260, H⟩ := H
      replace H : (if 1 + t169.size ≤ 9223372036854775807 then ((spec_l00Src_next.f t135 x139001_2 x139002_2 400).bind fun bt170 => ((spec_l00Src_next.f t135 bt170.2.1 bt170.2.2 5).bind fun bt173 => ((spec_l00Src_next.f t135 bt173.2.1 bt173.2.2 9).bind fun bt176 => ((some (([(⟨#[116, 105, 108, 108]⟩ : ByteArray)] : List ByteArray) : List ByteArray)).bind fun y179 => ((spec_l00Src_chance.f t135 bt176.2.1 bt176.2.2 3).bind fun bt183 => (if bt183.1 = true then (if x9_2.length < 2199023255552 then (spec_ShiftsOf.l1 k2 x6_1 (x9_2 ++ [(⟨(⟨#[119]⟩ : ByteArray) ++ t169, wrap64 (60 + bt170.1), wrap64 (15 * bt173.1), wrap64 (1 + bt176.1), y179⟩ : S72)]) (wrap64 (x10_2 - 1)) t135 bt183.2.1 bt183.2.2) else (none)) else (if y179.length < 8796093022208 then (if x9_2.length < 2199023255552 then (spec_ShiftsOf.l1 k2 x6_1 (x9_2 ++ [(⟨(⟨#[119]⟩ : ByteArray) ++ t169, wrap64 (60 + bt170.1), wrap64 (15 * bt173.1), wrap64 (1 + bt176.1), (y179 ++ [(⟨#[98, 114, 101, 97, 100]⟩ : ByteArray)])⟩ : S72)]) (wrap64 (x10_2 - 1)) t135 bt183.2.1 bt183.2.2) else (none)) else (none)))))))) else (none)) = some (r1, r2, r3) := H
      have A26 := za A260
      clear A260
      by_cases c27 : 1 + t169.size ≤ 9223372036854775807
      rotate_left
      ·rw [if_neg c27] at H
       exact absurd H (by simp)
      rw [if_pos c27] at H
      have c27b0 := eq_true c27
      have c27b1 := decide_eq_true c27
      try have c27b2 : (9223372036854775807 < 1 + t169.size) = False := eq_false (Nat.not_lt.2 c27)
      replace H := Option.bind_eq_some_iff.mp H
      obtain ⟨⟨t170, t171, t172⟩, A280, H⟩ := H
      replace H : ((spec_l00Src_next.f t135 t171 t172 5).bind fun bt173 => ((spec_l00Src_next.f t135 bt173.2.1 bt173.2.2 9).bind fun bt176 => ((some (([(⟨#[116, 105, 108, 108]⟩ : ByteArray)] : List ByteArray) : List ByteArray)).bind fun y179 => ((spec_l00Src_chance.f t135 bt176.2.1 bt176.2.2 3).bind fun bt183 => (if bt183.1 = true then (if x9_2.length < 2199023255552 then (spec_ShiftsOf.l1 k2 x6_1 (x9_2 ++ [(⟨(⟨#[119]⟩ : ByteArray) ++ t169, wrap64 (60 + t170), wrap64 (15 * bt173.1), wrap64 (1 + bt176.1), y179⟩ : S72)]) (wrap64 (x10_2 - 1)) t135 bt183.2.1 bt183.2.2) else (none)) else (if y179.length < 8796093022208 then (if x9_2.length < 2199023255552 then (spec_ShiftsOf.l1 k2 x6_1 (x9_2 ++ [(⟨(⟨#[119]⟩ : ByteArray) ++ t169, wrap64 (60 + t170), wrap64 (15 * bt173.1), wrap64 (1 + bt176.1), (y179 ++ [(⟨#[98, 114, 101, 97, 100]⟩ : ByteArray)])⟩ : S72)]) (wrap64 (x10_2 - 1)) t135 bt183.2.1 bt183.2.2) else (none)) else (none))))))) = some (r1, r2, r3) := H
      have A28 := za A280
      clear A280
      replace H := Option.bind_eq_some_iff.mp H
      obtain ⟨⟨t173, t174, t175⟩, A290, H⟩ := H
      replace H : ((spec_l00Src_next.f t135 t174 t175 9).bind fun bt176 => ((some (([(⟨#[116, 105, 108, 108]⟩ : ByteArray)] : List ByteArray) : List ByteArray)).bind fun y179 => ((spec_l00Src_chance.f t135 bt176.2.1 bt176.2.2 3).bind fun bt183 => (if bt183.1 = true then (if x9_2.length < 2199023255552 then (spec_ShiftsOf.l1 k2 x6_1 (x9_2 ++ [(⟨(⟨#[119]⟩ : ByteArray) ++ t169, wrap64 (60 + t170), wrap64 (15 * t173), wrap64 (1 + bt176.1), y179⟩ : S72)]) (wrap64 (x10_2 - 1)) t135 bt183.2.1 bt183.2.2) else (none)) else (if y179.length < 8796093022208 then (if x9_2.length < 2199023255552 then (spec_ShiftsOf.l1 k2 x6_1 (x9_2 ++ [(⟨(⟨#[119]⟩ : ByteArray) ++ t169, wrap64 (60 + t170), wrap64 (15 * t173), wrap64 (1 + bt176.1), (y179 ++ [(⟨#[98, 114, 101, 97, 100]⟩ : ByteArray)])⟩ : S72)]) (wrap64 (x10_2 - 1)) t135 bt183.2.1 bt183.2.2) else (none)) else (none)))))) = some (r1, r2, r3) := H
      have A29 := za A290
      clear A290
      replace H := Option.bind_eq_some_iff.mp H
      obtain ⟨⟨t176, t177, t178⟩, A300, H⟩ := H
      replace H : ((some (([(⟨#[116, 105, 108, 108]⟩ : ByteArray)] : List ByteArray) : List ByteArray)).bind fun y179 => ((spec_l00Src_chance.f t135 t177 t178 3).bind fun bt183 => (if bt183.1 = true then (if x9_2.length < 2199023255552 then (spec_ShiftsOf.l1 k2 x6_1 (x9_2 ++ [(⟨(⟨#[119]⟩ : ByteArray) ++ t169, wrap64 (60 + t170), wrap64 (15 * t173), wrap64 (1 + t176), y179⟩ : S72)]) (wrap64 (x10_2 - 1)) t135 bt183.2.1 bt183.2.2) else (none)) else (if y179.length < 8796093022208 then (if x9_2.length < 2199023255552 then (spec_ShiftsOf.l1 k2 x6_1 (x9_2 ++ [(⟨(⟨#[119]⟩ : ByteArray) ++ t169, wrap64 (60 + t170), wrap64 (15 * t173), wrap64 (1 + t176), (y179 ++ [(⟨#[98, 114, 101, 97, 100]⟩ : ByteArray)])⟩ : S72)]) (wrap64 (x10_2 - 1)) t135 bt183.2.1 bt183.2.2) else (none)) else (none))))) = some (r1, r2, r3) := H
      have A30 := za A300
      clear A300
      obtain ⟨y179, hy179⟩ : ∃ y_ : List ByteArray, y_ = (([(⟨#[116, 105, 108, 108]⟩ : ByteArray)] : List ByteArray)) := ⟨_, rfl⟩
      replace H : ((spec_l00Src_chance.f t135 t177 t178 3).bind fun bt183 => (if bt183.1 = true then (if x9_2.length < 2199023255552 then (spec_ShiftsOf.l1 k2 x6_1 (x9_2 ++ [(⟨(⟨#[119]⟩ : ByteArray) ++ t169, wrap64 (60 + t170), wrap64 (15 * t173), wrap64 (1 + t176), y179⟩ : S72)]) (wrap64 (x10_2 - 1)) t135 bt183.2.1 bt183.2.2) else (none)) else (if y179.length < 8796093022208 then (if x9_2.length < 2199023255552 then (spec_ShiftsOf.l1 k2 x6_1 (x9_2 ++ [(⟨(⟨#[119]⟩ : ByteArray) ++ t169, wrap64 (60 + t170), wrap64 (15 * t173), wrap64 (1 + t176), (y179 ++ [(⟨#[98, 114, 101, 97, 100]⟩ : ByteArray)])⟩ : S72)]) (wrap64 (x10_2 - 1)) t135 bt183.2.1 bt183.2.2) else (none)) else (none)))) = some (r1, r2, r3) := by first | (rw [hy179]; with_reducible exact H) | (have H2_ := (Option.bind_some _ _).symm.trans H; rw [hy179]; with_reducible exact H2_) | (have H2_ := (Option.bind_some _ _).symm.trans H; with_reducible exact H2_) | with_reducible exact H | (rw [hy179]; exact H) | exact H
      have Ny179 := za hy179
      clear hy179
      replace H := Option.bind_eq_some_iff.mp H
      obtain ⟨⟨t183, t184, t185⟩, A310, H⟩ := H
      replace H : (if t183 = true then (if x9_2.length < 2199023255552 then (spec_ShiftsOf.l1 k2 x6_1 (x9_2 ++ [(⟨(⟨#[119]⟩ : ByteArray) ++ t169, wrap64 (60 + t170), wrap64 (15 * t173), wrap64 (1 + t176), y179⟩ : S72)]) (wrap64 (x10_2 - 1)) t135 t184 t185) else (none)) else (if y179.length < 8796093022208 then (if x9_2.length < 2199023255552 then (spec_ShiftsOf.l1 k2 x6_1 (x9_2 ++ [(⟨(⟨#[119]⟩ : ByteArray) ++ t169, wrap64 (60 + t170), wrap64 (15 * t173), wrap64 (1 + t176), (y179 ++ [(⟨#[98, 114, 101, 97, 100]⟩ : ByteArray)])⟩ : S72)]) (wrap64 (x10_2 - 1)) t135 t184 t185) else (none)) else (none))) = some (r1, r2, r3) := H
      have A31 := za A310
      clear A310
      by_cases c32 : t183 = true
      ·subst c32
       have H1 : (if x9_2.length < 2199023255552 then (spec_ShiftsOf.l1 k2 x6_1 (x9_2 ++ [(⟨(⟨#[119]⟩ : ByteArray) ++ t169, wrap64 (60 + t170), wrap64 (15 * t173), wrap64 (1 + t176), y179⟩ : S72)]) (wrap64 (x10_2 - 1)) t135 t184 t185) else (none)) = some (r1, r2, r3) := by rw [if_pos rfl] at H; exact H
       clear H
       have H := H1
       clear H1
       by_cases c33 : x9_2.length < 2199023255552
       rotate_left
       ·rw [if_neg c33] at H
        exact absurd H (by simp)
       rw [if_pos c33] at H
       have LMc33 := za c33
       clear c33
       obtain ⟨y186, hy186⟩ : ∃ y_ : List (S72), y_ = (x9_2 ++ [(⟨(⟨#[119]⟩ : ByteArray) ++ t169, wrap64 (60 + t170), wrap64 (15 * t173), wrap64 (1 + t176), y179⟩ : S72)]) := ⟨_, rfl⟩
       replace H : (spec_ShiftsOf.l1 k2 x6_1 y186 (wrap64 (x10_2 - 1)) t135 t184 t185) = some (r1, r2, r3) := by first | (rw [hy186]; with_reducible exact H) | (have H2_ := (Option.bind_some _ _).symm.trans H; rw [hy186]; with_reducible exact H2_) | (have H2_ := (Option.bind_some _ _).symm.trans H; with_reducible exact H2_) | with_reducible exact H | (rw [hy186]; exact H) | exact H
       have Ny186 := za hy186
       clear hy186
       have H' := za H
       clear H
       obtain ⟨Ao34, co34, eo34⟩ := Kd.S_slice HO_9.out
       subst eo34
       go_wp2_with (first | ((with_reducible refine gate_callee (f := 76) rfl ?_); refine goesL_ (some 54) rfl rfl Try.func76 zG130 rfl #[.int .i64 (x9_2.length : Int)] rfl zG93 ?_; (with_reducible refine (spec_l00Digits.calls k2 (x9_2.length : Int) t169 _ A26.out).mono ?_); rintro e w35 ⟨rfl, hb⟩; refine ⟨_, rfl, ?_⟩; have n_ := zA_ (za (zq zG117 hb)) (zA_ (za (zcg zG114 hb)) (zA_ (za (IsS168.below zK212 hb)) (za (zr zG94 hb)))); clear HO_6 HO_9 HI138 HB; obtain ⟨HO_6, HO_9, HI138, HB⟩ := n_; (try clear hb); (try clear hk); (try clear hi)) | ((with_reducible refine gate_callee (f := 56) rfl ?_); refine goesL_ (some 57) rfl rfl Try.func56 zG130 rfl #[.pointer (some ⟨g138, 0, none⟩), .int .i64 400] rfl zG93 ?_; (with_reducible refine (spec_l00Src_next.calls g138 t135 x139001_2 x139002_2 400 t170 t171 t172 w _ ?side1 ?side2 A28.out).mono ?_); (case side1 => exact zH42); (case side2 => exact zH75); rintro e w36 ⟨rfl, hi, hb, hk⟩; refine ⟨_, rfl, ?_⟩; have n_ := zA_ (za (zt (zbd (IsS168.apart (show IsS168 w _ g138 t135 x139001_2 x139002_2 from by repeat (first | (with_reducible first | exact HI138.out | apply IsS168.alloc | apply IsS168.drewN | apply IsS168.drew | apply IsS168.set_1 | apply IsS168.set_2) | exact HI138.out)) zG117 zG131) hk (fun _ h => h.2)) (fun _ h => h.1))) (zA_ (za (zbc (zbo (IsS168.apartS (show IsS168 w _ g138 t135 x139001_2 x139002_2 from by repeat (first | (with_reducible first | exact HI138.out | apply IsS168.alloc | apply IsS168.drewN | apply IsS168.drew | apply IsS168.set_1 | apply IsS168.set_2) | exact HI138.out)) zG114 zG131) hk (fun _ h => h.2)) (fun _ h => h.1))) (zA_ (za (hb)) (za (hi)))); clear HO_6 HO_9 HB HI138; obtain ⟨HO_6, HO_9, HB, HI138⟩ := n_; (try clear hb); (try clear hk); (try clear hi)) | ((with_reducible refine gate_callee (f := 56) rfl ?_); refine goesL_ (some 60) rfl rfl Try.func56 zG130 rfl #[.pointer (some ⟨g138, 0, none⟩), .int .i64 5] rfl zG93 ?_; (with_reducible refine (spec_l00Src_next.calls g138 t135 t171 t172 5 t173 t174 t175 w _ ?side1 ?side2 A29.out).mono ?_); (case side1 => exact zH42); (case side2 => exact zH75); rintro e w37 ⟨rfl, hi, hb, hk⟩; refine ⟨_, rfl, ?_⟩; have n_ := zA_ (za (zt (zbd (IsS168.apart (show IsS168 w _ g138 t135 t171 t172 from by repeat (first | (with_reducible first | exact HI138.out | apply IsS168.alloc | apply IsS168.drewN | apply IsS168.drew | apply IsS168.set_1 | apply IsS168.set_2) | exact HI138.out)) zG117 zG131) hk (fun _ h => h.2)) (fun _ h => h.1))) (zA_ (za (zbc (zbo (IsS168.apartS (show IsS168 w _ g138 t135 t171 t172 from by repeat (first | (with_reducible first | exact HI138.out | apply IsS168.alloc | apply IsS168.drewN | apply IsS168.drew | apply IsS168.set_1 | apply IsS168.set_2) | exact HI138.out)) zG114 zG131) hk (fun _ h => h.2)) (fun _ h => h.1))) (zA_ (za (hb)) (za (hi)))); clear HO_6 HO_9 HB HI138; obtain ⟨HO_6, HO_9, HB, HI138⟩ := n_; (try clear hb); (try clear hk); (try clear hi)) | ((with_reducible refine gate_callee (f := 56) rfl ?_); refine goesL_ (some 63) rfl rfl Try.func56 zG130 rfl #[.pointer (some ⟨g138, 0, none⟩), .int .i64 9] rfl zG93 ?_; (with_reducible refine (spec_l00Src_next.calls g138 t135 t174 t175 9 t176 t177 t178 w _ ?side1 ?side2 A30.out).mono ?_); (case side1 => exact zH42); (case side2 => exact zH75); rintro e w38 ⟨rfl, hi, hb, hk⟩; refine ⟨_, rfl, ?_⟩; have n_ := zA_ (za (zt (zbd (IsS168.apart (show IsS168 w _ g138 t135 t174 t175 from by repeat (first | (with_reducible first | exact HI138.out | apply IsS168.alloc | apply IsS168.drewN | apply IsS168.drew | apply IsS168.set_1 | apply IsS168.set_2) | exact HI138.out)) zG117 zG131) hk (fun _ h => h.2)) (fun _ h => h.1))) (zA_ (za (zbc (zbo (IsS168.apartS (show IsS168 w _ g138 t135 t174 t175 from by repeat (first | (with_reducible first | exact HI138.out | apply IsS168.alloc | apply IsS168.drewN | apply IsS168.drew | apply IsS168.set_1 | apply IsS168.set_2) | exact HI138.out)) zG114 zG131) hk (fun _ h => h.2)) (fun _ h => h.1))) (zA_ (za (hb)) (za (hi)))); clear HO_6 HO_9 HB HI138; obtain ⟨HO_6, HO_9, HB, HI138⟩ := n_; (try clear hb); (try clear hk); (try clear hi)) | ((with_reducible refine gate_dst (N := 65) rfl ?_); refine zbh Kd.string _ 9 ?hg (N := 65) ?hd (xs := ([(⟨#[116, 105, 108, 108]⟩ : ByteArray)] : List ByteArray)) (inner := [.string (⟨#[116, 105, 108, 108]⟩ : ByteArray)]) (ok := fun _ => True) (okp := fun _ => True) ?hr ?hp (fun _ hk => hk) trivial (Below.refl _ _) (Nat.le_refl _) (by simp) ?_; (case hd => rfl); (case hg => rfl); (case hr => exact zH125); (case hp => exact zH54); intro v180 w39 ho40 hb hg_ hnew_; clear hg_ hnew_; (first | rw [← Ny179.out] at ho40 | (simp only [Int.reduceToNat] at ho40; rw [← Ny179.out] at ho40)); have n_ := zA_ (za (zq zG117 hb)) (zA_ (za (Kd.S_elder' zG114 (zag ho40) hb)) (zA_ (za (zam ho40 (zo zG94))) (zA_ (za (IsS168.below zK212 hb)) (za (zr zG94 hb))))); clear HO_6 HO_9 HI138 HB; obtain ⟨HO_6, HO_9, HO181, HI138, HB⟩ := n_; clear hb ho40; obtain ⟨Ao41, co41, eo41⟩ := zal HO181.out; subst eo41) | ((with_reducible refine gate_dst (N := 11) rfl ?_); refine box_event ?hg (N := 11) ?hd (cs := #[.string (⟨#[]⟩ : ByteArray), .int .i64 0, .int .i64 0, .int .i64 0, .slice none 0 0]) (t := 72) ?hr ?_; (case hd => rfl); (case hg => rfl); (case hr => exact zH125); intro gb182 hg w42 hbox hb; have n_ := zA_ (za (zq zG117 hb)) (zA_ (za (zcg (Kd.S_elderB zG114 gb182 (Nat.le_of_eq hg.symm)) hb)) (zA_ (za (zq zK248 hb)) (zA_ (za (IsS168.below zK212 hb)) (zA_ (za (zr zG94 hb)) (zA_ (za (hbox)) (zA_ (zN1 w.heap.size hg (zo zG94)) (zA_ (zN1 w.heap.size hg (zo zG94)) (zN2 hg (IsS168.lt (show IsS168 w _ g138 t135 t177 t178 from by repeat (first | (with_reducible first | exact HI138.out | apply IsS168.alloc | apply IsS168.drewN | apply IsS168.drew | apply IsS168.set_1 | apply IsS168.set_2) | exact HI138.out))))))))))); clear HO_6 HO_9 HO181 HI138 HB; obtain ⟨HO_6, HO_9, HO181, HI138, HB, BK182, GW182, GE182, NB138_182, NB182_138⟩ := n_; clear hb hbox hg; have hnb43 := NB182_138.out; have hnc43 := NB138_182.out; obtain ⟨hcz44_0, hcz44_1, hcz44_2, hcz44_3, hcz44_4, hfz44_0, hfz44_1, hfz44_2, hfz44_3, hfz44_4⟩ := zB5 BK182.out) | ((with_reducible refine gate_callee (f := 93) rfl ?_); refine goesL_ (some 68) rfl rfl Try.func93 zG130 rfl #[.pointer (some ⟨g138, 0, none⟩), .int .i64 3] rfl zG93 ?_; (with_reducible refine (spec_l00Src_chance.calls g138 t135 t177 t178 3 true t184 t185 w _ ?side1 ?side2 A31.out).mono ?_); (case side1 => exact zH24); (case side2 => exact zH50); rintro e w45 ⟨rfl, hi, hb, hk⟩; refine ⟨_, rfl, ?_⟩; have n_ := zA_ (za (zt (zbd (IsS168.apart (show IsS168 w _ g138 t135 t177 t178 from by repeat (first | (with_reducible first | exact HI138.out | apply IsS168.alloc | apply IsS168.drewN | apply IsS168.drew | apply IsS168.set_1 | apply IsS168.set_2 | refine IsS168.far ?_ (IsS168.ne_blk HI138.out BK182.out zG131) _ | refine IsS168.far ?_ NB138_182.out _) | exact HI138.out)) (by (with_reducible repeat (first | apply zl | apply zm | apply zn)); exact (zt (zs (p := ⟨gb182, 4, none⟩) (zs (p := ⟨gb182, 3, none⟩) (zs (p := ⟨gb182, 2, none⟩) (zs (p := ⟨gb182, 1, none⟩) (zs (p := ⟨gb182, 0, none⟩) (zv HO_6.out BK182.out zG131) (fun _ hk => hk.2) (.string ((⟨#[119]⟩ : ByteArray) ++ t169))) (fun _ hk => hk.2) (.int .i64 (wrap64 (60 + t170)))) (fun _ hk => hk.2) (.int .i64 (wrap64 (15 * t173)))) (fun _ hk => hk.2) (.int .i64 (wrap64 (1 + t176)))) (fun _ hk => hk.2) (.slice Ao41 y179.length co41)) (fun _ h_ => h_.1))) zG131) hk (fun _ h => h.2)) (fun _ h => h.1))) (zA_ (za (zbc (zbo (IsS168.apartS (show IsS168 w _ g138 t135 t177 t178 from by repeat (first | (with_reducible first | exact HI138.out | apply IsS168.alloc | apply IsS168.drewN | apply IsS168.drew | apply IsS168.set_1 | apply IsS168.set_2 | refine IsS168.far ?_ (IsS168.ne_blk HI138.out BK182.out zG131) _ | refine IsS168.far ?_ NB138_182.out _) | exact HI138.out)) (by (with_reducible repeat (first | apply zau | apply zav | apply zax)); exact (zbc (zbp (p := ⟨gb182, 4, none⟩) (zbp (p := ⟨gb182, 3, none⟩) (zbp (p := ⟨gb182, 2, none⟩) (zbp (p := ⟨gb182, 1, none⟩) (zbp (p := ⟨gb182, 0, none⟩) (zbc HO_9.out (fun k_ hk => (⟨hk, hk.2⟩ : _ ∧ k_ ≠ gb182))) (fun _ hk => hk.2) (.string ((⟨#[119]⟩ : ByteArray) ++ t169))) (fun _ hk => hk.2) (.int .i64 (wrap64 (60 + t170)))) (fun _ hk => hk.2) (.int .i64 (wrap64 (15 * t173)))) (fun _ hk => hk.2) (.int .i64 (wrap64 (1 + t176)))) (fun _ hk => hk.2) (.slice Ao41 y179.length co41)) (fun _ h_ => h_.1))) zG131) hk (fun _ h => h.2)) (fun _ h => h.1))) (zA_ (za (zt (zbd (IsS168.apart (show IsS168 w _ g138 t135 t177 t178 from by repeat (first | (with_reducible first | exact HI138.out | apply IsS168.alloc | apply IsS168.drewN | apply IsS168.drew | apply IsS168.set_1 | apply IsS168.set_2 | refine IsS168.far ?_ (IsS168.ne_blk HI138.out BK182.out zG131) _ | refine IsS168.far ?_ NB138_182.out _) | exact HI138.out)) (by (with_reducible repeat (first | apply zl | apply zm | apply zn)); exact (zt (zs (p := ⟨gb182, 4, none⟩) (zs (p := ⟨gb182, 3, none⟩) (zs (p := ⟨gb182, 2, none⟩) (zs (p := ⟨gb182, 1, none⟩) (zs (p := ⟨gb182, 0, none⟩) (zv HO181.out BK182.out zG131) (fun _ hk => hk.2) (.string ((⟨#[119]⟩ : ByteArray) ++ t169))) (fun _ hk => hk.2) (.int .i64 (wrap64 (60 + t170)))) (fun _ hk => hk.2) (.int .i64 (wrap64 (15 * t173)))) (fun _ hk => hk.2) (.int .i64 (wrap64 (1 + t176)))) (fun _ hk => hk.2) (.slice Ao41 y179.length co41)) (fun _ h_ => h_.1))) zG131) hk (fun _ h => h.2)) (fun _ h => h.1))) (zA_ (za (KeepBut.blk hk (g' := gb182) (o := .cells #[.string ((⟨#[119]⟩ : ByteArray) ++ t169), .int .i64 (wrap64 (60 + t170)), .int .i64 (wrap64 (15 * t173)), .int .i64 (wrap64 (1 + t176)), .slice Ao41 y179.length co41] 72 (0, 0)) zK132 NB182_138.out (by simp))) (zA_ (za (hb)) (za (hi)))))); clear HO_6 HO_9 HO181 BK182 HB HI138; obtain ⟨HO_6, HO_9, HO181, BK182, HB, HI138⟩ := n_; (try clear hb); (try clear hk); (try clear hi); obtain ⟨hcz46_0, hcz46_1, hcz46_2, hcz46_3, hcz46_4, hfz46_0, hfz46_1, hfz46_2, hfz46_3, hfz46_4⟩ := zB5 BK182.out) | ((with_reducible refine gate_builtin (b := .append) (xs := #[.tmp 75, .tmp 77]) rfl ?_); at_builtin; refine Kd.S_append k72 (w0 := w) w.heap.size rfl (.tmp 75) (.tmp 77) 60 72 (.agg #[(.string ⟨#[]⟩), (.int .i64 0), (.int .i64 0), (.int .i64 0), (.slice none 0 0)]) 64 rfl Try.underlying60 info72 rfl zG131 (by omega) (.slice Ao34 x9_2.length co34) x9_2 (⟨(⟨#[119]⟩ : ByteArray) ++ t169, wrap64 (60 + t170), wrap64 (15 * t173), wrap64 (1 + t176), y179⟩ : S72) [.string ((⟨#[119]⟩ : ByteArray) ++ t169), .int .i64 (wrap64 (60 + t170)), .int .i64 (wrap64 (15 * t173)), .int .i64 (wrap64 (1 + t176)), .slice Ao41 y179.length co41] (fun k_ => k_ ≠ gb182) (fun k_ => some k_ = (.slice Ao41 y179.length co41 : Value).ownBlock) rfl rfl ?aP (fun k_ hk_ => ((zt (ok' := fun k_ => ((fun k_ => k_ ≠ gb182)) k_ ∧ some k_ ≠ (.slice Ao34 x9_2.length co34 : Value).ownBlock) (zv (zaj (HO181.out) (zcb HO_9.out) zG131) BK182.out zG131) (fun k_ hk => ⟨hk.2, hk.1.2⟩))).1 k_ hk_.symm) ?aF ?aO ?aB ?aS ?aL ?_; (case aP => exact k72_mkM _ _ _ (⟨(⟨#[119]⟩ : ByteArray) ++ t169, wrap64 (60 + t170), wrap64 (15 * t173), wrap64 (1 + t176), y179⟩ : S72) (zt (zbw rfl (zt (ok' := fun k_ => ((fun k_ => k_ ≠ gb182)) k_ ∧ some k_ ≠ (.slice Ao34 x9_2.length co34 : Value).ownBlock) (zv (zaj (HO181.out) (zcb HO_9.out) zG131) BK182.out zG131) (fun k_ hk => ⟨hk.2, hk.1.2⟩))) (fun _ h_ => h_))); (case aB => exact zH44); (case aF => exact (fun k_ hk => Kd.freshB (g := gb182) (o := .cells #[.string ((⟨#[119]⟩ : ByteArray) ++ t169), .int .i64 (wrap64 (60 + t170)), .int .i64 (wrap64 (15 * t173)), .int .i64 (wrap64 (1 + t176)), .slice Ao41 y179.length co41] 72 (0, 0)) zK235 k_ hk)); (case aO => exact (by (with_reducible repeat (first | apply zau | apply zav | apply zax)); exact zbc HO_9.out (fun k_ hk => ⟨hk.2, fun e_ => hk.1.2 e_⟩))); (case aS => exact zH40); (case aL => have := LMc33.out; omega); intro v187 w47 ho hb hg hat; rw [← Ny186.out] at ho; have n_ := zA_ (za (zar zG117 (zcb zG114) zG131 hg)) (zA_ (za (IsS168.grown (show IsS168 w _ g138 t135 t184 t185 from by repeat (first | (with_reducible first | exact HI138.out | apply IsS168.alloc | apply IsS168.drewN | apply IsS168.drew | apply IsS168.set_1 | apply IsS168.set_2 | refine IsS168.far ?_ (IsS168.ne_blk HI138.out BK182.out zG131) _ | refine IsS168.far ?_ NB138_182.out _) | exact HI138.out)) hg (IsS168.own_neS HI138.out HO_9.out zG131))) (zA_ (za (zas (g := gb182) (o := .cells #[.string ((⟨#[119]⟩ : ByteArray) ++ t169), .int .i64 (wrap64 (60 + t170)), .int .i64 (wrap64 (15 * t173)), .int .i64 (wrap64 (1 + t176)), .slice Ao41 y179.length co41] 72 (0, 0)) zK235 hg (Kd.S_away HO_9.out (fun _ hk => hk.2)))) (zA_ (za (hb)) (za (ho))))); clear HO_6 HI138 BK182 HB HO_9 HO181; obtain ⟨HO_6, HI138, BK182, HB, HO188⟩ := n_; clear ho hb hg hat))
       go_roundg k2
       case measure => have := HK1.out; have := HK2.out; omega
       case rel => exact ⟨(y186), (wrap64 (x10_2 - 1)), (t184), (t185), zG129, H', ⟨by have := HK1.out; have := HK2.out; omega⟩, ⟨zH118⟩, ⟨by (with_reducible repeat (first | apply zau | apply zav | apply zax)); exact zbc HO188.out (fun _ hk => trivial)⟩, ⟨zH22⟩, ⟨zH47⟩⟩
      replace c32 := Bool.eq_false_iff.mpr c32
      subst c32
      have H1 : (if y179.length < 8796093022208 then (if x9_2.length < 2199023255552 then (spec_ShiftsOf.l1 k2 x6_1 (x9_2 ++ [(⟨(⟨#[119]⟩ : ByteArray) ++ t169, wrap64 (60 + t170), wrap64 (15 * t173), wrap64 (1 + t176), (y179 ++ [(⟨#[98, 114, 101, 97, 100]⟩ : ByteArray)])⟩ : S72)]) (wrap64 (x10_2 - 1)) t135 t184 t185) else (none)) else (none)) = some (r1, r2, r3) := by rw [if_neg (show ¬ (false = true) by decide)] at H; exact H
      clear H
      have H := H1
      clear H1
      by_cases c48 : y179.length < 8796093022208
      rotate_left
      ·rw [if_neg c48] at H
       exact absurd H (by simp)
      rw [if_pos c48] at H
      have LMc48 := za c48
      clear c48
      obtain ⟨y189, hy189⟩ : ∃ y_ : List ByteArray, y_ = (y179 ++ [(⟨#[98, 114, 101, 97, 100]⟩ : ByteArray)]) := ⟨_, rfl⟩
      replace H : (if x9_2.length < 2199023255552 then (spec_ShiftsOf.l1 k2 x6_1 (x9_2 ++ [(⟨(⟨#[119]⟩ : ByteArray) ++ t169, wrap64 (60 + t170), wrap64 (15 * t173), wrap64 (1 + t176), y189⟩ : S72)]) (wrap64 (x10_2 - 1)) t135 t184 t185) else (none)) = some (r1, r2, r3) := by first | (rw [hy189]; with_reducible exact H) | (have H2_ := (Option.bind_some _ _).symm.trans H; rw [hy189]; with_reducible exact H2_) | (have H2_ := (Option.bind_some _ _).symm.trans H; with_reducible exact H2_) | with_reducible exact H | (rw [hy189]; exact H) | exact H
      have Ny189 := za hy189
      clear hy189
      by_cases c49 : x9_2.length < 2199023255552
      rotate_left
      ·rw [if_neg c49] at H
       exact absurd H (by simp)
      rw [if_pos c49] at H
      have LMc49 := za c49
      clear c49
      obtain ⟨y192, hy192⟩ : ∃ y_ : List (S72), y_ = (x9_2 ++ [(⟨(⟨#[119]⟩ : ByteArray) ++ t169, wrap64 (60 + t170), wrap64 (15 * t173), wrap64 (1 + t176), y189⟩ : S72)]) := ⟨_, rfl⟩
      replace H : (spec_ShiftsOf.l1 k2 x6_1 y192 (wrap64 (x10_2 - 1)) t135 t184 t185) = some (r1, r2, r3) := by first | (rw [hy192]; with_reducible exact H) | (have H2_ := (Option.bind_some _ _).symm.trans H; rw [hy192]; with_reducible exact H2_) | (have H2_ := (Option.bind_some _ _).symm.trans H; with_reducible exact H2_) | with_reducible exact H | (rw [hy192]; exact H) | exact H
      have Ny192 := za hy192
      clear hy192
      have H' := za H
      clear H
      obtain ⟨Ao50, co50, eo50⟩ := Kd.S_slice HO_9.out
      subst eo50
      go_wp2_with (first | ((with_reducible refine gate_callee (f := 76) rfl ?_); refine goesL_ (some 54) rfl rfl Try.func76 zG130 rfl #[.int .i64 (x9_2.length : Int)] rfl zG93 ?_; (with_reducible refine (spec_l00Digits.calls k2 (x9_2.length : Int) t169 _ A26.out).mono ?_); rintro e w51 ⟨rfl, hb⟩; refine ⟨_, rfl, ?_⟩; have n_ := zA_ (za (zq zG117 hb)) (zA_ (za (zcg zG114 hb)) (zA_ (za (IsS168.below zK212 hb)) (za (zr zG94 hb)))); clear HO_6 HO_9 HI138 HB; obtain ⟨HO_6, HO_9, HI138, HB⟩ := n_; (try clear hb); (try clear hk); (try clear hi)) | ((with_reducible refine gate_callee (f := 56) rfl ?_); refine goesL_ (some 57) rfl rfl Try.func56 zG130 rfl #[.pointer (some ⟨g138, 0, none⟩), .int .i64 400] rfl zG93 ?_; (with_reducible refine (spec_l00Src_next.calls g138 t135 x139001_2 x139002_2 400 t170 t171 t172 w _ ?side1 ?side2 A28.out).mono ?_); (case side1 => exact zH42); (case side2 => exact zH75); rintro e w52 ⟨rfl, hi, hb, hk⟩; refine ⟨_, rfl, ?_⟩; have n_ := zA_ (za (zt (zbd (IsS168.apart (show IsS168 w _ g138 t135 x139001_2 x139002_2 from by repeat (first | (with_reducible first | exact HI138.out | apply IsS168.alloc | apply IsS168.drewN | apply IsS168.drew | apply IsS168.set_1 | apply IsS168.set_2) | exact HI138.out)) zG117 zG131) hk (fun _ h => h.2)) (fun _ h => h.1))) (zA_ (za (zbc (zbo (IsS168.apartS (show IsS168 w _ g138 t135 x139001_2 x139002_2 from by repeat (first | (with_reducible first | exact HI138.out | apply IsS168.alloc | apply IsS168.drewN | apply IsS168.drew | apply IsS168.set_1 | apply IsS168.set_2) | exact HI138.out)) zG114 zG131) hk (fun _ h => h.2)) (fun _ h => h.1))) (zA_ (za (hb)) (za (hi)))); clear HO_6 HO_9 HB HI138; obtain ⟨HO_6, HO_9, HB, HI138⟩ := n_; (try clear hb); (try clear hk); (try clear hi)) | ((with_reducible refine gate_callee (f := 56) rfl ?_); refine goesL_ (some 60) rfl rfl Try.func56 zG130 rfl #[.pointer (some ⟨g138, 0, none⟩), .int .i64 5] rfl zG93 ?_; (with_reducible refine (spec_l00Src_next.calls g138 t135 t171 t172 5 t173 t174 t175 w _ ?side1 ?side2 A29.out).mono ?_); (case side1 => exact zH42); (case side2 => exact zH75); rintro e w53 ⟨rfl, hi, hb, hk⟩; refine ⟨_, rfl, ?_⟩; have n_ := zA_ (za (zt (zbd (IsS168.apart (show IsS168 w _ g138 t135 t171 t172 from by repeat (first | (with_reducible first | exact HI138.out | apply IsS168.alloc | apply IsS168.drewN | apply IsS168.drew | apply IsS168.set_1 | apply IsS168.set_2) | exact HI138.out)) zG117 zG131) hk (fun _ h => h.2)) (fun _ h => h.1))) (zA_ (za (zbc (zbo (IsS168.apartS (show IsS168 w _ g138 t135 t171 t172 from by repeat (first | (with_reducible first | exact HI138.out | apply IsS168.alloc | apply IsS168.drewN | apply IsS168.drew | apply IsS168.set_1 | apply IsS168.set_2) | exact HI138.out)) zG114 zG131) hk (fun _ h => h.2)) (fun _ h => h.1))) (zA_ (za (hb)) (za (hi)))); clear HO_6 HO_9 HB HI138; obtain ⟨HO_6, HO_9, HB, HI138⟩ := n_; (try clear hb); (try clear hk); (try clear hi)) | ((with_reducible refine gate_callee (f := 56) rfl ?_); refine goesL_ (some 63) rfl rfl Try.func56 zG130 rfl #[.pointer (some ⟨g138, 0, none⟩), .int .i64 9] rfl zG93 ?_; (with_reducible refine (spec_l00Src_next.calls g138 t135 t174 t175 9 t176 t177 t178 w _ ?side1 ?side2 A30.out).mono ?_); (case side1 => exact zH42); (case side2 => exact zH75); rintro e w54 ⟨rfl, hi, hb, hk⟩; refine ⟨_, rfl, ?_⟩; have n_ := zA_ (za (zt (zbd (IsS168.apart (show IsS168 w _ g138 t135 t174 t175 from by repeat (first | (with_reducible first | exact HI138.out | apply IsS168.alloc | apply IsS168.drewN | apply IsS168.drew | apply IsS168.set_1 | apply IsS168.set_2) | exact HI138.out)) zG117 zG131) hk (fun _ h => h.2)) (fun _ h => h.1))) (zA_ (za (zbc (zbo (IsS168.apartS (show IsS168 w _ g138 t135 t174 t175 from by repeat (first | (with_reducible first | exact HI138.out | apply IsS168.alloc | apply IsS168.drewN | apply IsS168.drew | apply IsS168.set_1 | apply IsS168.set_2) | exact HI138.out)) zG114 zG131) hk (fun _ h => h.2)) (fun _ h => h.1))) (zA_ (za (hb)) (za (hi)))); clear HO_6 HO_9 HB HI138; obtain ⟨HO_6, HO_9, HB, HI138⟩ := n_; (try clear hb); (try clear hk); (try clear hi)) | ((with_reducible refine gate_dst (N := 65) rfl ?_); refine zbh Kd.string _ 9 ?hg (N := 65) ?hd (xs := ([(⟨#[116, 105, 108, 108]⟩ : ByteArray)] : List ByteArray)) (inner := [.string (⟨#[116, 105, 108, 108]⟩ : ByteArray)]) (ok := fun _ => True) (okp := fun _ => True) ?hr ?hp (fun _ hk => hk) trivial (Below.refl _ _) (Nat.le_refl _) (by simp) ?_; (case hd => rfl); (case hg => rfl); (case hr => exact zH125); (case hp => exact zH54); intro v180 w55 ho56 hb hg_ hnew_; clear hg_ hnew_; (first | rw [← Ny179.out] at ho56 | (simp only [Int.reduceToNat] at ho56; rw [← Ny179.out] at ho56)); have n_ := zA_ (za (zq zG117 hb)) (zA_ (za (Kd.S_elder' zG114 (zag ho56) hb)) (zA_ (za (zam ho56 (zo zG94))) (zA_ (za (IsS168.below zK212 hb)) (za (zr zG94 hb))))); clear HO_6 HO_9 HI138 HB; obtain ⟨HO_6, HO_9, HO181, HI138, HB⟩ := n_; clear hb ho56; obtain ⟨Ao57, co57, eo57⟩ := zal HO181.out; subst eo57) | ((with_reducible refine gate_dst (N := 11) rfl ?_); refine box_event ?hg (N := 11) ?hd (cs := #[.string (⟨#[]⟩ : ByteArray), .int .i64 0, .int .i64 0, .int .i64 0, .slice none 0 0]) (t := 72) ?hr ?_; (case hd => rfl); (case hg => rfl); (case hr => exact zH125); intro gb182 hg w58 hbox hb; have n_ := zA_ (za (zq zG117 hb)) (zA_ (za (zcg (Kd.S_elderB zG114 gb182 (Nat.le_of_eq hg.symm)) hb)) (zA_ (za (zq zK248 hb)) (zA_ (za (IsS168.below zK212 hb)) (zA_ (za (zr zG94 hb)) (zA_ (za (hbox)) (zA_ (zN1 w.heap.size hg (zo zG94)) (zA_ (zN1 w.heap.size hg (zo zG94)) (zN2 hg (IsS168.lt (show IsS168 w _ g138 t135 t177 t178 from by repeat (first | (with_reducible first | exact HI138.out | apply IsS168.alloc | apply IsS168.drewN | apply IsS168.drew | apply IsS168.set_1 | apply IsS168.set_2) | exact HI138.out))))))))))); clear HO_6 HO_9 HO181 HI138 HB; obtain ⟨HO_6, HO_9, HO181, HI138, HB, BK182, GW182, GE182, NB138_182, NB182_138⟩ := n_; clear hb hbox hg; have hnb59 := NB182_138.out; have hnc59 := NB138_182.out; obtain ⟨hcz60_0, hcz60_1, hcz60_2, hcz60_3, hcz60_4, hfz60_0, hfz60_1, hfz60_2, hfz60_3, hfz60_4⟩ := zB5 BK182.out) | ((with_reducible refine gate_callee (f := 93) rfl ?_); refine goesL_ (some 68) rfl rfl Try.func93 zG130 rfl #[.pointer (some ⟨g138, 0, none⟩), .int .i64 3] rfl zG93 ?_; (with_reducible refine (spec_l00Src_chance.calls g138 t135 t177 t178 3 false t184 t185 w _ ?side1 ?side2 A31.out).mono ?_); (case side1 => exact zH24); (case side2 => exact zH50); rintro e w61 ⟨rfl, hi, hb, hk⟩; refine ⟨_, rfl, ?_⟩; have n_ := zA_ (za (zt (zbd (IsS168.apart (show IsS168 w _ g138 t135 t177 t178 from by repeat (first | (with_reducible first | exact HI138.out | apply IsS168.alloc | apply IsS168.drewN | apply IsS168.drew | apply IsS168.set_1 | apply IsS168.set_2 | refine IsS168.far ?_ (IsS168.ne_blk HI138.out BK182.out zG131) _ | refine IsS168.far ?_ NB138_182.out _) | exact HI138.out)) (by (with_reducible repeat (first | apply zl | apply zm | apply zn)); exact (zt (zs (p := ⟨gb182, 4, none⟩) (zs (p := ⟨gb182, 3, none⟩) (zs (p := ⟨gb182, 2, none⟩) (zs (p := ⟨gb182, 1, none⟩) (zs (p := ⟨gb182, 0, none⟩) (zv HO_6.out BK182.out zG131) (fun _ hk => hk.2) (.string ((⟨#[119]⟩ : ByteArray) ++ t169))) (fun _ hk => hk.2) (.int .i64 (wrap64 (60 + t170)))) (fun _ hk => hk.2) (.int .i64 (wrap64 (15 * t173)))) (fun _ hk => hk.2) (.int .i64 (wrap64 (1 + t176)))) (fun _ hk => hk.2) (.slice Ao57 y179.length co57)) (fun _ h_ => h_.1))) zG131) hk (fun _ h => h.2)) (fun _ h => h.1))) (zA_ (za (zbc (zbo (IsS168.apartS (show IsS168 w _ g138 t135 t177 t178 from by repeat (first | (with_reducible first | exact HI138.out | apply IsS168.alloc | apply IsS168.drewN | apply IsS168.drew | apply IsS168.set_1 | apply IsS168.set_2 | refine IsS168.far ?_ (IsS168.ne_blk HI138.out BK182.out zG131) _ | refine IsS168.far ?_ NB138_182.out _) | exact HI138.out)) (by (with_reducible repeat (first | apply zau | apply zav | apply zax)); exact (zbc (zbp (p := ⟨gb182, 4, none⟩) (zbp (p := ⟨gb182, 3, none⟩) (zbp (p := ⟨gb182, 2, none⟩) (zbp (p := ⟨gb182, 1, none⟩) (zbp (p := ⟨gb182, 0, none⟩) (zbc HO_9.out (fun k_ hk => (⟨hk, hk.2⟩ : _ ∧ k_ ≠ gb182))) (fun _ hk => hk.2) (.string ((⟨#[119]⟩ : ByteArray) ++ t169))) (fun _ hk => hk.2) (.int .i64 (wrap64 (60 + t170)))) (fun _ hk => hk.2) (.int .i64 (wrap64 (15 * t173)))) (fun _ hk => hk.2) (.int .i64 (wrap64 (1 + t176)))) (fun _ hk => hk.2) (.slice Ao57 y179.length co57)) (fun _ h_ => h_.1))) zG131) hk (fun _ h => h.2)) (fun _ h => h.1))) (zA_ (za (zt (zbd (IsS168.apart (show IsS168 w _ g138 t135 t177 t178 from by repeat (first | (with_reducible first | exact HI138.out | apply IsS168.alloc | apply IsS168.drewN | apply IsS168.drew | apply IsS168.set_1 | apply IsS168.set_2 | refine IsS168.far ?_ (IsS168.ne_blk HI138.out BK182.out zG131) _ | refine IsS168.far ?_ NB138_182.out _) | exact HI138.out)) (by (with_reducible repeat (first | apply zl | apply zm | apply zn)); exact (zt (zs (p := ⟨gb182, 4, none⟩) (zs (p := ⟨gb182, 3, none⟩) (zs (p := ⟨gb182, 2, none⟩) (zs (p := ⟨gb182, 1, none⟩) (zs (p := ⟨gb182, 0, none⟩) (zv HO181.out BK182.out zG131) (fun _ hk => hk.2) (.string ((⟨#[119]⟩ : ByteArray) ++ t169))) (fun _ hk => hk.2) (.int .i64 (wrap64 (60 + t170)))) (fun _ hk => hk.2) (.int .i64 (wrap64 (15 * t173)))) (fun _ hk => hk.2) (.int .i64 (wrap64 (1 + t176)))) (fun _ hk => hk.2) (.slice Ao57 y179.length co57)) (fun _ h_ => h_.1))) zG131) hk (fun _ h => h.2)) (fun _ h => h.1))) (zA_ (za (KeepBut.blk hk (g' := gb182) (o := .cells #[.string ((⟨#[119]⟩ : ByteArray) ++ t169), .int .i64 (wrap64 (60 + t170)), .int .i64 (wrap64 (15 * t173)), .int .i64 (wrap64 (1 + t176)), .slice Ao57 y179.length co57] 72 (0, 0)) zK132 NB182_138.out (by simp))) (zA_ (za (hb)) (za (hi)))))); clear HO_6 HO_9 HO181 BK182 HB HI138; obtain ⟨HO_6, HO_9, HO181, BK182, HB, HI138⟩ := n_; (try clear hb); (try clear hk); (try clear hi); obtain ⟨hcz62_0, hcz62_1, hcz62_2, hcz62_3, hcz62_4, hfz62_0, hfz62_1, hfz62_2, hfz62_3, hfz62_4⟩ := zB5 BK182.out) | ((with_reducible refine gate_builtin (b := .append) (xs := #[.tmp 71, .tmp 72]) rfl ?_); at_builtin; refine zbx Kd.string (w0 := w) w.heap.size rfl (.tmp 71) (.tmp 72) 70 9 (.string ⟨#[]⟩) 16 rfl Try.underlying70 info9 rfl zG131 (by omega) (.slice Ao57 y179.length co57) y179 (⟨#[98, 114, 101, 97, 100]⟩ : ByteArray) [.string (⟨#[98, 114, 101, 97, 100]⟩ : ByteArray)] (fun _ => True) (fun _ => False) rfl rfl ?aP (fun _ hk => hk.elim) ?aF ?aO ?aB ?aS ?aL ?_; (case aP => exact rfl); (case aB => exact zH44); (case aF => exact (fun _ _ => trivial)); (case aO => exact zK248); (case aS => exact zH40); (case aL => have := LMc48.out; omega); intro v190 w63 ho hb hg hat; rw [← Ny189.out] at ho; have n_ := zA_ (za (zar zG117 (zaq zK248) zG131 hg)) (zA_ (za (Kd.S_after (ok := (fun k_ => k_ ≠ gb182)) (by (with_reducible repeat (first | apply zau | apply zav | apply zax)); exact zbc HO_9.out (fun _ hk => ⟨hk.2, hk.1.2⟩)) hg hat)) (zA_ (za (IsS168.grown (show IsS168 w _ g138 t135 t184 t185 from by repeat (first | (with_reducible first | exact HI138.out | apply IsS168.alloc | apply IsS168.drewN | apply IsS168.drew | apply IsS168.set_1 | apply IsS168.set_2 | refine IsS168.far ?_ (IsS168.ne_blk HI138.out BK182.out zG131) _ | refine IsS168.far ?_ NB138_182.out _) | exact HI138.out)) hg (IsS168.own_ne HI138.out HO181.out zG131))) (zA_ (za (zas (g := gb182) (o := .cells #[.string ((⟨#[119]⟩ : ByteArray) ++ t169), .int .i64 (wrap64 (60 + t170)), .int .i64 (wrap64 (15 * t173)), .int .i64 (wrap64 (1 + t176)), .slice Ao57 y179.length co57] 72 (0, 0)) zK235 hg (zbj HO181.out BK182.out zG131))) (zA_ (za (hb)) (za (ho)))))); clear HO_6 HO_9 HI138 BK182 HB HO181; obtain ⟨HO_6, HO_9, HI138, BK182, HB, HO191⟩ := n_; clear ho hb hg hat; obtain ⟨Ao64, co64, eo64⟩ := zal HO191.out; subst eo64; obtain ⟨hcz65_0, hcz65_1, hcz65_2, hcz65_3, hcz65_4, hfz65_0, hfz65_1, hfz65_2, hfz65_3, hfz65_4⟩ := zB5 BK182.out) | ((with_reducible refine gate_store (t := 70) (p := 74) rfl ?_); refine store_event (t := 70) (p := 74) (v := ?vo_w66) (w1 := (w63.setCell ⟨gb182, 4, none⟩ (.slice Ao64 y189.length co64))) ?hg ?ho ?hn ?hr ?_; (case ho => rfl); (case hg => rfl); (case hn => rfl); (case hr => exact zH125); intro w66 hw; have n0_ : Aside0 (Kd.R k139 139 w66 w.heap.size (fun _ => True) u6 x6_1) := ⟨(by rw [hw]; exact (by (with_reducible repeat (first | apply zl | apply zm | apply zn)); exact zt (zs (p := ⟨gb182, 4, none⟩) (zv HO_6.out BK182.out zG131) (fun _ hk => hk.2) (.slice Ao64 y189.length co64)) (fun _ hk => trivial)))⟩; have n1_ : Aside0 (Kd.S k72 72 w66 w.heap.size (fun k_ => some k_ ≠ (.slice Ao64 y189.length co64 : Value).ownBlock ∧ k_ ≠ gb182) (.slice Ao50 x9_2.length co50) x9_2) := ⟨(by rw [hw]; exact (by (with_reducible repeat (first | apply zau | apply zav | apply zax)); exact zbc (zbp (p := ⟨gb182, 4, none⟩) (zbc HO_9.out (fun k_ hk => (⟨hk, hk.1⟩ : _ ∧ k_ ≠ gb182))) (fun _ hk => hk.2) (.slice Ao64 y189.length co64)) (fun _ hk => ⟨hk.1.2, hk.1.1⟩)))⟩; have n2_ : Aside0 (Kd.R Kd.string 9 w66 w.heap.size (fun _ => True) (.slice Ao64 y189.length co64) y189) := ⟨(by rw [hw]; exact (by (with_reducible repeat (first | apply zl | apply zm | apply zn)); exact zt (zs (p := ⟨gb182, 4, none⟩) (zv HO191.out BK182.out zG131) (fun _ hk => hk.2) (.slice Ao64 y189.length co64)) (fun _ hk => trivial)))⟩; have n3_ : Aside0 (w66.heap[gb182]? = some (.cells #[.string ((⟨#[119]⟩ : ByteArray) ++ t169), .int .i64 (wrap64 (60 + t170)), .int .i64 (wrap64 (15 * t173)), .int .i64 (wrap64 (1 + t176)), .slice Ao64 y189.length co64] 72 (0, 0))) := ⟨(by rw [hw]; exact (by (with_reducible repeat (first | refine zd ?_ _ | refine zg ?_ | refine ze ?_ _)); refine zu (cs := #[.string ((⟨#[119]⟩ : ByteArray) ++ t169), .int .i64 (wrap64 (60 + t170)), .int .i64 (wrap64 (15 * t173)), .int .i64 (wrap64 (1 + t176)), .slice Ao57 y179.length co57]) ?_ 4 _ rfl; (with_reducible repeat (first | refine zd ?_ _ | refine zg ?_ | refine ze ?_ _)); exact BK182.out))⟩; have n4_ : Aside0 (IsS168 w w66 g138 t135 t184 t185) := ⟨(by rw [hw]; exact (by repeat (first | (with_reducible first | exact HI138.out | apply IsS168.alloc | apply IsS168.drewN | apply IsS168.drew | apply IsS168.set_1 | apply IsS168.set_2 | refine IsS168.far ?_ (IsS168.ne_blk HI138.out BK182.out zG131) _ | refine IsS168.far ?_ NB138_182.out _) | exact HI138.out)))⟩; have n5_ : Aside0 (Below w.heap.size w w66) := ⟨(by rw [hw]; exact (by repeat (first | (with_reducible first | exact HB.out | apply zi | apply zc | apply zh | refine zf ?_ (IsS168.ge HI138.out) | refine zf ?_ GE182.out) | exact HB.out)))⟩; clear hw HO_6; clear HO_9 HO191; clear BK182 HI138 HB; have HO_6 := n0_; have HO_9 := n1_; have HO191 := n2_; have BK182 := n3_; have HI138 := n4_; have HB := n5_; clear n0_ n1_ n2_ n3_ n4_ n5_; obtain ⟨hcz67_0, hcz67_1, hcz67_2, hcz67_3, hcz67_4, hfz67_0, hfz67_1, hfz67_2, hfz67_3, hfz67_4⟩ := zB5 BK182.out) | ((with_reducible refine gate_builtin (b := .append) (xs := #[.tmp 75, .tmp 77]) rfl ?_); at_builtin; refine Kd.S_append k72 (w0 := w) w.heap.size rfl (.tmp 75) (.tmp 77) 60 72 (.agg #[(.string ⟨#[]⟩), (.int .i64 0), (.int .i64 0), (.int .i64 0), (.slice none 0 0)]) 64 rfl Try.underlying60 info72 rfl zG131 (by omega) (.slice Ao50 x9_2.length co50) x9_2 (⟨(⟨#[119]⟩ : ByteArray) ++ t169, wrap64 (60 + t170), wrap64 (15 * t173), wrap64 (1 + t176), y189⟩ : S72) [.string ((⟨#[119]⟩ : ByteArray) ++ t169), .int .i64 (wrap64 (60 + t170)), .int .i64 (wrap64 (15 * t173)), .int .i64 (wrap64 (1 + t176)), .slice Ao64 y189.length co64] (fun k_ => k_ ≠ gb182) (fun k_ => some k_ = (.slice Ao64 y189.length co64 : Value).ownBlock) rfl rfl ?aP (fun k_ hk_ => ((zt (ok' := fun k_ => ((fun k_ => k_ ≠ gb182)) k_ ∧ some k_ ≠ (.slice Ao50 x9_2.length co50 : Value).ownBlock) (zv (zaj (HO191.out) (zcb HO_9.out) zG131) BK182.out zG131) (fun k_ hk => ⟨hk.2, hk.1.2⟩))).1 k_ hk_.symm) ?aF ?aO ?aB ?aS ?aL ?_; (case aP => exact k72_mkM _ _ _ (⟨(⟨#[119]⟩ : ByteArray) ++ t169, wrap64 (60 + t170), wrap64 (15 * t173), wrap64 (1 + t176), y189⟩ : S72) (zt (zbw rfl (zt (ok' := fun k_ => ((fun k_ => k_ ≠ gb182)) k_ ∧ some k_ ≠ (.slice Ao50 x9_2.length co50 : Value).ownBlock) (zv (zaj (HO191.out) (zcb HO_9.out) zG131) BK182.out zG131) (fun k_ hk => ⟨hk.2, hk.1.2⟩))) (fun _ h_ => h_))); (case aB => exact zH44); (case aF => exact (fun k_ hk => Kd.freshB (g := gb182) (o := .cells #[.string ((⟨#[119]⟩ : ByteArray) ++ t169), .int .i64 (wrap64 (60 + t170)), .int .i64 (wrap64 (15 * t173)), .int .i64 (wrap64 (1 + t176)), .slice Ao64 y189.length co64] 72 (0, 0)) zK235 k_ hk)); (case aO => exact (by (with_reducible repeat (first | apply zau | apply zav | apply zax)); exact zbc HO_9.out (fun k_ hk => ⟨hk.2, fun e_ => hk.1 e_⟩))); (case aS => exact zH40); (case aL => have := LMc49.out; omega); intro v193 w68 ho hb hg hat; rw [← Ny192.out] at ho; have n_ := zA_ (za (zar zG117 (zcb zG114) zG131 hg)) (zA_ (za (IsS168.grown (show IsS168 w _ g138 t135 t184 t185 from by repeat (first | (with_reducible first | exact HI138.out | apply IsS168.alloc | apply IsS168.drewN | apply IsS168.drew | apply IsS168.set_1 | apply IsS168.set_2 | refine IsS168.far ?_ (IsS168.ne_blk HI138.out BK182.out zG131) _ | refine IsS168.far ?_ NB138_182.out _) | exact HI138.out)) hg (IsS168.own_neS HI138.out HO_9.out zG131))) (zA_ (za (zas (g := gb182) (o := .cells #[.string ((⟨#[119]⟩ : ByteArray) ++ t169), .int .i64 (wrap64 (60 + t170)), .int .i64 (wrap64 (15 * t173)), .int .i64 (wrap64 (1 + t176)), .slice Ao64 y189.length co64] 72 (0, 0)) zK235 hg (Kd.S_away HO_9.out (fun _ hk => hk.2)))) (zA_ (za (hb)) (za (ho))))); clear HO_6 HI138 BK182 HB HO_9 HO191; obtain ⟨HO_6, HI138, BK182, HB, HO194⟩ := n_; clear ho hb hg hat))
      go_roundg k2
      case measure => have := HK1.out; have := HK2.out; omega
      case rel => exact ⟨(y192), (wrap64 (x10_2 - 1)), (t184), (t185), zG129, H', ⟨by have := HK1.out; have := HK2.out; omega⟩, ⟨zH118⟩, ⟨by (with_reducible repeat (first | apply zau | apply zav | apply zax)); exact zbc HO194.out (fun _ hk => trivial)⟩, ⟨zH22⟩, ⟨zH47⟩⟩
     rw [if_neg c25] at H
     have c25b0 : decide (0 < x10_2) = false := decide_eq_false c25
     clear c25
     obtain ⟨y195, hy195⟩ : ∃ y_ : List Int, y_ = (([] : List Int)) := ⟨_, rfl⟩
     replace H : (spec_ShiftsOf.l2 k2 x6_1 x9_2 y195 0 t135 x139001_2 x139002_2) = some (r1, r2, r3) := by first | (rw [hy195]; with_reducible exact H) | (have H2_ := (Option.bind_some _ _).symm.trans H; rw [hy195]; with_reducible exact H2_) | (have H2_ := (Option.bind_some _ _).symm.trans H; with_reducible exact H2_) | with_reducible exact H | (rw [hy195]; exact H) | exact H
     have Ny195 := za hy195
     clear hy195
     have H' := za H
     clear H
     go_wp2_with (first | ((with_reducible refine gate_dst (N := 79) rfl ?_); refine zbh (Kd.int .i64) _ 3 ?hg (N := 79) ?hd (xs := ([] : List Int)) (inner := []) (ok := fun _ => True) (okp := fun _ => True) ?hr ?hp (fun _ hk => hk) trivial (Below.refl _ _) (Nat.le_refl _) (by simp) ?_; (case hd => rfl); (case hg => rfl); (case hr => exact zH125); (case hp => exact zH131); intro v196 w69 ho70 hb hg_ hnew_; clear hg_ hnew_; (first | rw [← Ny195.out] at ho70 | (simp only [Int.reduceToNat] at ho70; rw [← Ny195.out] at ho70)); have n_ := zA_ (za (zq zG117 hb)) (zA_ (za (zcg zG114 hb)) (zA_ (za (zam ho70 (zo zG94))) (zA_ (za (IsS168.below zK212 hb)) (za (zr zG94 hb))))); clear HO_6 HO_9 HI138 HB; obtain ⟨HO_6, HO_9, HO197, HI138, HB⟩ := n_; clear hb ho70))
     go_loopg [12, 13] k2 (fun kq v12 v13 w' => ∃ (x12_3 : List Int) (x13_3 : Int) (x139001_3 : Int) (x139002_3 : Int), v13 = .int .i64 x13_3 ∧ Aside0 (spec_ShiftsOf.l2 kq x6_1 x9_2 x12_3 x13_3 t135 x139001_3 x139002_3 = some (r1, r2, r3)) ∧ Aside0 (kq ≤ k2) ∧ Aside0 (Kd.R k139 139 w' w.heap.size (fun _ => True) u6 x6_1) ∧ Aside0 (Kd.S k72 72 w' w.heap.size (fun _ => True) u9 x9_2) ∧ Aside0 (Kd.R (Kd.int .i64) 3 w' w.heap.size (fun _ => True) v12 x12_3) ∧ Aside0 (IsS168 w w' g138 t135 x139001_3 x139002_3) ∧ Aside0 (Below w.heap.size w w'))
     case atStart => exact ⟨(y195), (0), (x139001_2), (x139002_2), zG129, H', ⟨Nat.le_refl _⟩, ⟨zH118⟩, ⟨zH115⟩, ⟨by (with_reducible repeat (first | apply zl | apply zm | apply zn)); exact HO197.out⟩, ⟨zH39⟩, ⟨zH72⟩⟩
     case round =>
      clear H'
      try clear c12
      try clear c12b0
      try clear c15
      try clear c25
      try clear c25b0
      try clear c27
      try clear c27b0
      try clear c27b1
      try clear c27b2
      try clear c32
      try clear c33
      try clear c48
      try clear c49
      try clear hcz44_0
      try clear hcz44_1
      try clear hcz44_2
      try clear hcz44_3
      try clear hcz44_4
      try clear hcz46_0
      try clear hcz46_1
      try clear hcz46_2
      try clear hcz46_3
      try clear hcz46_4
      try clear hcz60_0
      try clear hcz60_1
      try clear hcz60_2
      try clear hcz60_3
      try clear hcz60_4
      try clear hcz62_0
      try clear hcz62_1
      try clear hcz62_2
      try clear hcz62_3
      try clear hcz62_4
      try clear hcz65_0
      try clear hcz65_1
      try clear hcz65_2
      try clear hcz65_3
      try clear hcz65_4
      try clear hcz67_0
      try clear hcz67_1
      try clear hcz67_2
      try clear hcz67_3
      try clear hcz67_4
      try clear hfz44_0
      try clear hfz44_1
      try clear hfz44_2
      try clear hfz44_3
      try clear hfz44_4
      try clear hfz46_0
      try clear hfz46_1
      try clear hfz46_2
      try clear hfz46_3
      try clear hfz46_4
      try clear hfz60_0
      try clear hfz60_1
      try clear hfz60_2
      try clear hfz60_3
      try clear hfz60_4
      try clear hfz62_0
      try clear hfz62_1
      try clear hfz62_2
      try clear hfz62_3
      try clear hfz62_4
      try clear hfz65_0
      try clear hfz65_1
      try clear hfz65_2
      try clear hfz65_3
      try clear hfz65_4
      try clear hfz67_0
      try clear hfz67_1
      try clear hfz67_2
      try clear hfz67_3
      try clear hfz67_4
      obtain ⟨x12_3, x13_3, x139001_3, x139002_3, rfl, HA, HK3, HO_6, HO_9, HO_12, HI138, HB⟩ := hrel
      cases gk with
      | zero => exact absurd HA.out (by simp [spec_ShiftsOf.l2])
      | succ k3 =>
       have H := HA.out
       clear HA
       simp only [spec_ShiftsOf.l2] at H
       by_cases c71 : x13_3 < (x6_1.length : Int)
       rotate_left
       ·rw [if_neg c71] at H
        have c71b0 := decide_eq_false c71
        clear c71
        simp only [Option.some.injEq, Prod.mk.injEq] at H
        obtain ⟨rfl, rfl, rfl⟩ := H
        obtain ⟨Ao78, co78, eo78⟩ := zal HO_6.out
        subst eo78
        go_wp2
        go_ret3
        exact ⟨_, _, _, zH113, zH118, zH115, by (with_reducible repeat (first | apply zl | apply zm | apply zn)); exact HO_12.out, zH72⟩

       rw [if_pos c71] at H
       have c71b0 := decide_eq_true c71
       clear c71
       replace H := Option.bind_eq_some_iff.mp H
       obtain ⟨⟨t198, t199, t200⟩, A720, H⟩ := H
       replace H : (if x12_3.length < 17592186044416 then (spec_ShiftsOf.l2 k3 x6_1 x9_2 (x12_3 ++ [t198]) (wrap64 (x13_3 + 1)) t135 t199 t200) else (none)) = some (r1, r2, r3) := H
       have A72 := za A720
       clear A720
       by_cases c73 : x12_3.length < 17592186044416
       rotate_left
       ·rw [if_neg c73] at H
        exact absurd H (by simp)
       rw [if_pos c73] at H
       have LMc73 := za c73
       clear c73
       obtain ⟨y201, hy201⟩ : ∃ y_ : List Int, y_ = (x12_3 ++ [t198]) := ⟨_, rfl⟩
       replace H : (spec_ShiftsOf.l2 k3 x6_1 x9_2 y201 (wrap64 (x13_3 + 1)) t135 t199 t200) = some (r1, r2, r3) := by first | (rw [hy201]; with_reducible exact H) | (have H2_ := (Option.bind_some _ _).symm.trans H; rw [hy201]; with_reducible exact H2_) | (have H2_ := (Option.bind_some _ _).symm.trans H; with_reducible exact H2_) | with_reducible exact H | (rw [hy201]; exact H) | exact H
       have Ny201 := za hy201
       clear hy201
       have H' := za H
       clear H
       obtain ⟨Ao74, co74, eo74⟩ := zal HO_6.out
       subst eo74
       obtain ⟨Ao75, co75, eo75⟩ := Kd.S_slice HO_9.out
       subst eo75
       go_wp2_with (first | ((with_reducible refine gate_callee (f := 56) rfl ?_); refine goesL_ (some 90) rfl rfl Try.func56 zG130 rfl #[.pointer (some ⟨g138, 0, none⟩), .int .i64 (x9_2.length : Int)] rfl zG93 ?_; (with_reducible refine (spec_l00Src_next.calls g138 t135 x139001_3 x139002_3 (x9_2.length : Int) t198 t199 t200 w _ ?side1 ?side2 A72.out).mono ?_); (case side1 => exact zH42); (case side2 => exact zH75); rintro e w76 ⟨rfl, hi, hb, hk⟩; refine ⟨_, rfl, ?_⟩; have n_ := zA_ (za (zt (zbd (IsS168.apart (show IsS168 w _ g138 t135 x139001_3 x139002_3 from by repeat (first | (with_reducible first | exact HI138.out | apply IsS168.alloc | apply IsS168.drewN | apply IsS168.drew | apply IsS168.set_1 | apply IsS168.set_2) | exact HI138.out)) zG117 zG131) hk (fun _ h => h.2)) (fun _ h => h.1))) (zA_ (za (zbc (zbo (IsS168.apartS (show IsS168 w _ g138 t135 x139001_3 x139002_3 from by repeat (first | (with_reducible first | exact HI138.out | apply IsS168.alloc | apply IsS168.drewN | apply IsS168.drew | apply IsS168.set_1 | apply IsS168.set_2) | exact HI138.out)) zG114 zG131) hk (fun _ h => h.2)) (fun _ h => h.1))) (zA_ (za (zt (zbd (IsS168.apart (show IsS168 w _ g138 t135 x139001_3 x139002_3 from by repeat (first | (with_reducible first | exact HI138.out | apply IsS168.alloc | apply IsS168.drewN | apply IsS168.drew | apply IsS168.set_1 | apply IsS168.set_2) | exact HI138.out)) zK249 zG131) hk (fun _ h => h.2)) (fun _ h => h.1))) (zA_ (za (hb)) (za (hi))))); clear HO_6 HO_9 HO_12 HB HI138; obtain ⟨HO_6, HO_9, HO_12, HB, HI138⟩ := n_; (try clear hb); (try clear hk); (try clear hi)) | ((with_reducible refine gate_builtin (b := .append) (xs := #[.tmp 86, .tmp 91]) rfl ?_); at_builtin; refine zbx (Kd.int .i64) (w0 := w) w.heap.size rfl (.tmp 86) (.tmp 91) 24 3 (.int .i64 0) 8 rfl Try.underlying24 info3 rfl zG131 (by omega) u12 x12_3 t198 [.int .i64 t198] (fun _ => True) (fun _ => False) rfl rfl ?aP (fun _ hk => hk.elim) ?aF ?aO ?aB ?aS ?aL ?_; (case aP => exact rfl); (case aB => exact zG94); (case aF => exact (fun _ _ => trivial)); (case aO => exact zK249); (case aS => exact (zo zG94)); (case aL => have := LMc73.out; omega); intro v202 w77 ho hb hg hat; rw [← Ny201.out] at ho; have n_ := zA_ (za (zar zG117 (zaq zK249) zG131 hg)) (zA_ (za (Kd.S_over' zG114 (zaq zK249) zG131 hg)) (zA_ (za (IsS168.grown (show IsS168 w _ g138 t135 t199 t200 from by repeat (first | (with_reducible first | exact HI138.out | apply IsS168.alloc | apply IsS168.drewN | apply IsS168.drew | apply IsS168.set_1 | apply IsS168.set_2) | exact HI138.out)) hg (IsS168.own_ne HI138.out HO_12.out zG131))) (zA_ (za (hb)) (za (ho))))); clear HO_6 HO_9 HI138 HB HO_12; obtain ⟨HO_6, HO_9, HI138, HB, HO203⟩ := n_; clear ho hb hg hat))
       go_roundg k3
       case measure => have := HK1.out; have := HK2.out; have := HK3.out; omega
       case rel => exact ⟨(y201), (wrap64 (x13_3 + 1)), (t199), (t200), zG129, H', ⟨by have := HK1.out; have := HK2.out; have := HK3.out; omega⟩, ⟨zH118⟩, ⟨zH115⟩, ⟨by (with_reducible repeat (first | apply zl | apply zm | apply zn)); exact HO203.out⟩, ⟨zH39⟩, ⟨zH72⟩⟩
/-! ### impl_within: function 88 -/
def impl_within.f (a0 : Int) (a1 : Int) (a2 : Int) : Option (Bool) := if a0 ≥ a1 then (some (decide (a0 ≤ a2))) else (some false)
set_option maxHeartbeats 64000000 in
set_option maxRecDepth 100000 in
theorem impl_within.calls (a0 : Int) (a1 : Int) (a2 : Int) (r : Bool) (w : World) (h : impl_within.f a0 a1 a2 = some r) :
  Calls Try.prog 88 #[.int .i64 a0, .int .i64 a1, .int .i64 a2] w fun e w' => e = .returned (.bool r) ∧ Drawn0 w w' := by
 have H : (if a0 ≥ a1 then (some (decide (a0 ≤ a2))) else (some false)) = some r := h
 clear h
 by_cases c4 : a0 ≥ a1
 ·rw [if_pos c4] at H
  have c4b0 : decide (a1 ≤ a0) = true := decide_eq_true c4
  clear c4
  obtain rfl := Option.some.inj H
  go_enter Try.func88, Try.ntmps88
  go_wp2
  go_ret
  exact zH91
 rw [if_neg c4] at H
 have c4b0 : decide (a1 ≤ a0) = false := decide_eq_false c4
 clear c4
 obtain rfl := Option.some.inj H
 go_enter Try.func88, Try.ntmps88
 go_wp2
 go_ret
 exact zH91

/-! ### impl_isLetter: function 129 -/
def impl_isLetter.f (a0 : Int) : Option (Bool) := if a0 ≥ 97 then (if a0 ≤ 122 then (some true) else (if a0 ≥ 65 then (if a0 ≤ 90 then (some true) else (some (a0 == 95))) else (some (a0 == 95)))) else (if a0 ≥ 65 then (if a0 ≤ 90 then (some true) else (some (a0 == 95))) else (some (a0 == 95)))
set_option maxHeartbeats 64000000 in
set_option maxRecDepth 100000 in
theorem impl_isLetter.calls (a0 : Int) (r : Bool) (w : World) (h : impl_isLetter.f a0 = some r) :
  Calls Try.prog 129 #[.int .u8 a0] w fun e w' => e = .returned (.bool r) ∧ Drawn0 w w' := by
 have H : (if a0 ≥ 97 then (if a0 ≤ 122 then (some true) else (if a0 ≥ 65 then (if a0 ≤ 90 then (some true) else (some (a0 == 95))) else (some (a0 == 95)))) else (if a0 ≥ 65 then (if a0 ≤ 90 then (some true) else (some (a0 == 95))) else (some (a0 == 95)))) = some r := h
 clear h
 by_cases c2 : a0 ≥ 97
 rotate_left
 ·rw [if_neg c2] at H
  have c2b0 : decide (97 ≤ a0) = false := decide_eq_false c2
  clear c2
  by_cases c6 : a0 ≥ 65
  rotate_left
  ·rw [if_neg c6] at H
   have c6b0 : decide (65 ≤ a0) = false := decide_eq_false c6
   clear c6
   obtain rfl := Option.some.inj H
   go_enter Try.func129, Try.ntmps129
   go_wp2
   go_ret
   exact zH91

  rw [if_pos c6] at H
  have c6b0 : decide (65 ≤ a0) = true := decide_eq_true c6
  clear c6
  by_cases c7 : a0 ≤ 90
  rotate_left
  ·rw [if_neg c7] at H
   have c7b0 := decide_eq_false c7
   clear c7
   obtain rfl := Option.some.inj H
   go_enter Try.func129, Try.ntmps129
   go_wp2
   go_ret
   exact zH91
  rw [if_pos c7] at H
  have c7b0 := decide_eq_true c7
  clear c7
  obtain rfl := Option.some.inj H
  go_enter Try.func129, Try.ntmps129
  go_wp2
  go_ret
  exact zH91
 rw [if_pos c2] at H
 have c2b0 : decide (97 ≤ a0) = true := decide_eq_true c2
 clear c2
 by_cases c3 : a0 ≤ 122
 ·rw [if_pos c3] at H
  have c3b0 := decide_eq_true c3
  clear c3
  obtain rfl := Option.some.inj H
  go_enter Try.func129, Try.ntmps129
  go_wp2
  go_ret
  exact zH91
 rw [if_neg c3] at H
 have c3b0 := decide_eq_false c3
 clear c3
 by_cases c4 : a0 ≥ 65
 rotate_left
 ·rw [if_neg c4] at H
  have c4b0 : decide (65 ≤ a0) = false := decide_eq_false c4
  clear c4
  obtain rfl := Option.some.inj H
  go_enter Try.func129, Try.ntmps129
  go_wp2
  go_ret
  exact zH91
 rw [if_pos c4] at H
 have c4b0 : decide (65 ≤ a0) = true := decide_eq_true c4
 clear c4
 by_cases c5 : a0 ≤ 90
 rotate_left
 ·rw [if_neg c5] at H
  have c5b0 := decide_eq_false c5
  clear c5
  obtain rfl := Option.some.inj H
  go_enter Try.func129, Try.ntmps129
  go_wp2
  go_ret
  exact zH91
 rw [if_pos c5] at H
 have c5b0 := decide_eq_true c5
 clear c5
 obtain rfl := Option.some.inj H
 go_enter Try.func129, Try.ntmps129
 go_wp2
 go_ret
 exact zH91
/-! ### impl_isDigit: function 130 -/
def impl_isDigit.f (a0 : Int) : Option (Bool) := if a0 ≥ 48 then (some (decide (a0 ≤ 57))) else (some false)
set_option maxHeartbeats 64000000 in
set_option maxRecDepth 100000 in
theorem impl_isDigit.calls (a0 : Int) (r : Bool) (w : World) (h : impl_isDigit.f a0 = some r) :
  Calls Try.prog 130 #[.int .u8 a0] w fun e w' => e = .returned (.bool r) ∧ Drawn0 w w' := by
 have H : (if a0 ≥ 48 then (some (decide (a0 ≤ 57))) else (some false)) = some r := h
 clear h
 by_cases c2 : a0 ≥ 48
 ·rw [if_pos c2] at H
  have c2b0 : decide (48 ≤ a0) = true := decide_eq_true c2
  clear c2
  obtain rfl := Option.some.inj H
  go_enter Try.func130, Try.ntmps130
  go_wp2
  go_ret
  exact zH91
 rw [if_neg c2] at H
 have c2b0 : decide (48 ≤ a0) = false := decide_eq_false c2
 clear c2
 obtain rfl := Option.some.inj H
 go_enter Try.func130, Try.ntmps130
 go_wp2
 go_ret
 exact zH91

end Go.Proofs.Ytojncbpeeboooaa.Y
