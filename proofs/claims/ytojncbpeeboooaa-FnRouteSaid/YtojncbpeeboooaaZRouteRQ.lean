/- Stops with a minute; the way between two stops; the law's marks on lists of whole numbers. -/
import Derived.Test.YtojncbpeeboooaaZStopsQ
namespace Go.Proofs.Ytojncbpeeboooaa.ZRouteRQ
open Go.RowKit Go.Proofs.Ytojncbpeeboooaa.Q Go.Proofs.Ytojncbpeeboooaa.Lib Go.Proofs.Ytojncbpeeboooaa.ZStopsQ Go.Proofs.YtojncbpeeboooaaW.PrintWords Go.Proofs.YtojncbpeeboooaaW.PrintLast Go.Proofs.YtojncbpeeboooaaW.PrintMore

def codeB (l : List S37) (a : Int) : Int := if l.length > 4096 then 2 else if stopsB l = true then (if 0 ≤ a ∧ a ≤ 100000 then 0 else 5) else 1
theorem code_spec (l : List S37) (a : Int) (hl : l.length ≤ maxLen) : Ev (fun k => spec_l20Begin.f k l a) (codeB l a) := by
  unfold spec_l20Begin.f codeB
  by_cases h : l.length > 4096
  · simp only [if_pos h, if_pos (show (l.length : Int) > 4096 by omega)]; exact ev_some _
  · simp only [if_neg h, if_neg (show ¬ (l.length : Int) > 4096 by omega)]
    refine ev_bind (spec_ev l hl) ?_
    by_cases hb : stopsB l = true
    · simp only [if_pos hb, ZStopsQ.l01In_eq, Option.bind_some, decide_eq_true_eq]
      by_cases ha : 0 ≤ a ∧ a ≤ 100000
      · simp only [if_pos ha]; exact ev_some _
      · simp only [if_neg ha]; exact ev_some _
    · simp only [if_neg hb]; exact ev_some _
theorem code_impl (l : List S37) (a : Int) (hl : l.length ≤ maxLen) : Ev (fun k => impl_stopsCode.f k l a) (codeB l a) := by
  unfold impl_stopsCode.f codeB
  by_cases h : l.length > 4096
  · simp only [if_pos h, impl_Stop_117.f, Option.bind_some, decide_eq_true_eq, if_neg (show ¬ (l.length : Int) ≤ 4096 by omega)]; exact ev_some _
  · simp only [if_neg h, impl_Stop_117.f, Option.bind_some, decide_eq_true_eq, if_pos (show (l.length : Int) ≤ 4096 by omega)]
    refine ev_bind (impl_ev l hl) ?_
    by_cases hb : stopsB l = true
    · simp only [if_pos hb, ZStopsQ.within_eq, Option.bind_some, decide_eq_true_eq]
      by_cases ha : 0 ≤ a ∧ a ≤ 100000
      · simp only [if_pos ha]; exact ev_some _
      · simp only [if_neg ha]; exact ev_some _
    · simp only [if_neg hb]; exact ev_some _
theorem code_zero {l : List S37} {a : Int} (h : codeB l a = 0) : ∀ p ∈ l, Right p := by
  unfold codeB at h
  split at h
  · omega
  · split at h
    · rename_i hb
      intro p hp
      unfold stopsB at hb
      simp only [Bool.and_eq_true, List.all_eq_true, decide_eq_true_eq] at hb
      exact hb.2 p hp
    · omega
theorem mx_le {a b c : Int} (h1 : a ≤ c) (h2 : b ≤ c) : mx a b ≤ c := by unfold mx; split <;> omega
theorem le_mx (a b : Int) : a ≤ mx a b ∧ b ≤ mx a b := by unfold mx; split <;> omega
def Near (p : S37) : Prop := (-1000 ≤ p.f0 ∧ p.f0 ≤ 1000) ∧ (-1000 ≤ p.f1 ∧ p.f1 ≤ 1000)
theorem near_of {p : S37} (h : Right p) : Near p := by unfold Right at h; exact ⟨h.1, h.2.1⟩
def dist (p q : S37) : Int := mx (p.f0 - q.f0) (q.f0 - p.f0) + mx (p.f1 - q.f1) (q.f1 - p.f1)
theorem dist_bd {p q : S37} (hp : Near p) (hq : Near q) : 0 ≤ dist p q ∧ dist p q ≤ 4000 := by
  unfold Near at hp hq
  have h0 := mx_le (show p.f0 - q.f0 ≤ 2000 by omega) (show q.f0 - p.f0 ≤ 2000 by omega)
  have h1 := mx_le (show p.f1 - q.f1 ≤ 2000 by omega) (show q.f1 - p.f1 ≤ 2000 by omega)
  have g0 := le_mx (p.f0 - q.f0) (q.f0 - p.f0)
  have g1 := le_mx (p.f1 - q.f1) (q.f1 - p.f1)
  unfold dist
  omega
theorem dist_spec {p q : S37} (hp : Near p) (hq : Near q) : spec_l20Far.f p.f0 p.f1 p.f2 p.f3 p.f4 q.f0 q.f1 q.f2 q.f3 q.f4 = some (dist p q) := by
  have hd := dist_bd hp hq
  unfold Near at hp hq
  unfold spec_l20Far.f
  unfold dist at hd ⊢
  rw [w64 (x := p.f0 - q.f0) (by omega) (by omega), w64 (x := q.f0 - p.f0) (by omega) (by omega), w64 (x := p.f1 - q.f1) (by omega) (by omega), w64 (x := q.f1 - p.f1) (by omega) (by omega), w64 (by omega) (by omega)]
theorem dist_impl {p q : S37} (hp : Near p) (hq : Near q) : impl_away.f p.f0 p.f1 p.f2 p.f3 p.f4 q.f0 q.f1 q.f2 q.f3 q.f4 = some (dist p q) := by
  have hd := dist_bd hp hq
  unfold Near at hp hq
  unfold impl_away.f impl_sizeOf.f
  unfold dist at hd ⊢
  simp only [Option.bind_some]
  rw [w64 (x := p.f0 - q.f0) (by omega) (by omega), w64 (x := p.f1 - q.f1) (by omega) (by omega), w64 (x := -(p.f0 - q.f0)) (by omega) (by omega), w64 (x := -(p.f1 - q.f1)) (by omega) (by omega)]
  rw [show -(p.f0 - q.f0) = q.f0 - p.f0 by omega, show -(p.f1 - q.f1) = q.f1 - p.f1 by omega, w64 (by omega) (by omega)]
/-! ### the law's marks -/
abbrev Sp := S37
abbrev Rt := List Int × List Int × Int × Int × Bool
abbrev St := List Int × Int × Int × Sp
def step (l : List Sp) (_ : Int) (v : Int) (s : St) : St ⊕ Rt :=
  let p := rd_T37 l v
  let arr := s.2.2.1 + dist s.2.2.2 p
  if arr > p.f3 then .inr ([], [], 0, 0, false)
  else .inl (s.1 ++ [arr], wrap64 (s.2.1 + mx 0 (p.f2 - arr)), mx arr p.f2 + p.f4, p)
def fin (o : List Int) (s : St) : Rt := (o, s.1, s.2.1, s.2.2.1 + dist s.2.2.2 ⟨0, 0, 0, 0, 0⟩, true)
def s0 (a : Int) : St := ([], 0, a, ⟨0, 0, 0, 0, 0⟩)
def routeR (l : List Sp) (a : Int) (o : List Int) : Rt := run (step l) (fin o) o 0 (s0 a)
def Inv (i : Nat) (s : St) : Prop := s.1.length = i ∧ 0 ≤ s.2.2.1 ∧ s.2.2.1 ≤ 101000 ∧ Near s.2.2.2
theorem near0 : Near (⟨0, 0, 0, 0, 0⟩ : Sp) := by unfold Near; decide
theorem rd_right {l : List Sp} (hl : ∀ p ∈ l, Right p) {v : Int} (hv : 0 ≤ v ∧ v < (l.length : Int)) : Right (rd_T37 l v) := by
  obtain ⟨w, rfl⟩ := Int.eq_ofNat_of_zero_le hv.1
  have hw : w < l.length := by omega
  have : rd_T37 l (w : Int) = l[w] := getD_some (List.getElem?_eq_getElem hw)
  rw [this]; exact hl _ (List.getElem_mem hw)
theorem inv_next {l : List Sp} {i : Nat} {s s' : St} {v : Int} (h : Inv i s) (hp : Right (rd_T37 l v)) (hs : step l (i : Int) v s = .inl s') : Inv (i + 1) s' := by
  obtain ⟨h1, h2, h3, h4⟩ := h
  have hd := dist_bd h4 (near_of hp)
  unfold step at hs
  dsimp only at hs
  split at hs
  · cases hs
  · rename_i hc
    cases hs
    have hpp := hp
    unfold Right at hpp
    have hm := mx_le (show s.2.2.1 + dist s.2.2.2 (rd_T37 l v) ≤ 100000 by omega) (show (rd_T37 l v).f2 ≤ 100000 by omega)
    have hm2 := le_mx (s.2.2.1 + dist s.2.2.2 (rd_T37 l v)) (rd_T37 l v).f2
    refine ⟨by simp [h1], ?_, ?_, (near_of hp)⟩
    · show 0 ≤ mx _ _ + _; omega
    · show mx _ _ + _ ≤ 101000; omega
theorem route_spec {l : List Sp} {a : Int} {o : List Int} (ho : o.length ≤ 4096) (ha : 0 ≤ a ∧ a ≤ 100000) (hl : ∀ p ∈ l, Right p) (hin : ∀ x ∈ o, 0 ≤ x ∧ x < (l.length : Int)) : Ev (fun k => spec_l20Route.f k l a o) (routeR l a o) := by
  have hm : o.length ≤ maxLen := by unfold maxLen; omega
  unfold spec_l20Route.f routeR
  refine run_ev o (step l) (fin o) (fun k i s => spec_l20Route.l0 k l o s.2.2.1 i (o.take i.toNat) s.1 s.2.1 0 s.2.2.2.f0 s.2.2.2.f1 s.2.2.2.f2 s.2.2.2.f3 s.2.2.2.f4) Inv (fun i v s hx hs => ?_) (fun s hs => ?_) (s0 a) ⟨rfl, ha.1, by show a ≤ 101000; omega, near0⟩
  · have hi := some_lt hx
    have hv := hin v (List.mem_of_getElem? hx)
    have hr : rd o (i : Int) = v := getD_some hx
    have hp := rd_right hl hv
    have hpp := hp
    unfold Right at hpp
    have hd := dist_bd hs.2.2.2 (near_of hp)
    have hb := hs.2
    have hw : wrap64 (s.2.2.1 + dist s.2.2.2 (rd_T37 l v)) = s.2.2.1 + dist s.2.2.2 (rd_T37 l v) := w64 (by omega) (by omega)
    have hlen := hs.1
    have htk : (o.take i).length = i := by rw [List.length_take]; omega
    by_cases hc : s.2.2.1 + dist s.2.2.2 (rd_T37 l v) > (rd_T37 l v).f3
    · refine ⟨fun s' hst => ?_, fun r hst => ?_⟩
      · unfold step at hst; dsimp only at hst; rw [if_pos hc] at hst; cases hst
      · unfold step at hst; dsimp only at hst; rw [if_pos hc] at hst; cases hst
        refine ev_succ (fun k => ?_)
        simp only [spec_l20Route.l0, hr, dist_spec hs.2.2.2 (near_of hp), Option.bind_some, hw]
        rw [if_pos (ilt hi), if_pos (ige _), if_pos hv.1, if_pos hv.2, if_pos hc]
    · refine ⟨fun s' hst => ⟨inv_next hs hp hst, fun r hE => ?_⟩, fun r hst => ?_⟩
      · unfold step at hst; dsimp only at hst; rw [if_neg hc] at hst; cases hst
        have hm2 := le_mx (s.2.2.1 + dist s.2.2.2 (rd_T37 l v)) (rd_T37 l v).f2
        have hm3 := mx_le (show s.2.2.1 + dist s.2.2.2 (rd_T37 l v) ≤ 100000 by omega) (show (rd_T37 l v).f2 ≤ 100000 by omega)
        have hw2 : wrap64 ((rd_T37 l v).f2 - (s.2.2.1 + dist s.2.2.2 (rd_T37 l v))) = (rd_T37 l v).f2 - (s.2.2.1 + dist s.2.2.2 (rd_T37 l v)) := w64 (by omega) (by omega)
        have hw3 : wrap64 (mx (s.2.2.1 + dist s.2.2.2 (rd_T37 l v)) (rd_T37 l v).f2 + (rd_T37 l v).f4) = mx (s.2.2.1 + dist s.2.2.2 (rd_T37 l v)) (rd_T37 l v).f2 + (rd_T37 l v).f4 := w64 (by omega) (by omega)
        have htk2 : o.take i ++ [v] = o.take (i + 1) := by rw [List.take_succ_eq_append_getElem hi, show o[i] = v from (List.getElem?_eq_some_iff.1 hx).2]
        refine Ev.step (fun k => ?_) hE
        simp only [spec_l20Route.l0, hr, dist_spec hs.2.2.2 (near_of hp), Option.bind_some, hw, hw2, hw3, Int.toNat_natCast, htk2]
        rw [if_pos (ilt hi), if_pos (ige _), if_pos hv.1, if_pos hv.2, if_neg hc, if_pos (by omega), if_pos (by omega), wrap_succ hi hm]
        rfl
      · unfold step at hst; dsimp only at hst; rw [if_neg hc] at hst; cases hst
  · have hd := dist_bd hs.2.2.2 near0
    have hb := hs.2
    have hw : wrap64 (s.2.2.1 + dist s.2.2.2 ⟨0, 0, 0, 0, 0⟩) = s.2.2.1 + dist s.2.2.2 ⟨0, 0, 0, 0, 0⟩ := w64 (by omega) (by omega)
    refine ev_succ (fun k => ?_)
    simp only [spec_l20Route.l0]
    rw [if_neg (by omega), dist_spec (q := ⟨0, 0, 0, 0, 0⟩) hs.2.2.2 near0]
    simp only [Option.bind_some, hw, Int.toNat_natCast, List.take_length]
    rfl
theorem route_impl {l : List Sp} {a : Int} {o : List Int} (ho : o.length ≤ 4096) (ha : 0 ≤ a ∧ a ≤ 100000) (hl : ∀ p ∈ l, Right p) (hin : ∀ x ∈ o, 0 ≤ x ∧ x < (l.length : Int)) : Ev (fun k => impl_routeOf.f k l a o) (routeR l a o) := by
  have hm : o.length ≤ maxLen := by unfold maxLen; omega
  unfold impl_routeOf.f routeR
  have hcl : slices_Clone_int_int.f o = some o := by
    unfold slices_Clone_int_int.f
    simp only [Option.bind_some, List.length_nil, List.nil_append]
    rw [if_pos (by omega)]
  simp only [hcl, Option.bind_some]
  refine run_ev o (step l) (fin o) (fun k i s => impl_routeOf.l0 k l s.2.2.1 o (o.length : Int) i o s.1 s.2.1 0 s.2.2.2.f0 s.2.2.2.f1 s.2.2.2.f2 s.2.2.2.f3 s.2.2.2.f4) Inv (fun i v s hx hs => ?_) (fun s hs => ?_) (s0 a) ⟨rfl, ha.1, by show a ≤ 101000; omega, near0⟩
  · have hi := some_lt hx
    have hv := hin v (List.mem_of_getElem? hx)
    have hr : rd o (i : Int) = v := getD_some hx
    have hp := rd_right hl hv
    have hpp := hp
    unfold Right at hpp
    have hd := dist_bd hs.2.2.2 (near_of hp)
    have hb := hs.2
    have hw : wrap64 (s.2.2.1 + dist s.2.2.2 (rd_T37 l v)) = s.2.2.1 + dist s.2.2.2 (rd_T37 l v) := w64 (by omega) (by omega)
    have hlen := hs.1
    by_cases hc : s.2.2.1 + dist s.2.2.2 (rd_T37 l v) > (rd_T37 l v).f3
    · refine ⟨fun s' hst => ?_, fun r hst => ?_⟩
      · unfold step at hst; dsimp only at hst; rw [if_pos hc] at hst; cases hst
      · unfold step at hst; dsimp only at hst; rw [if_pos hc] at hst; cases hst
        refine ev_succ (fun k => ?_)
        simp only [impl_routeOf.l0, hr, dist_impl hs.2.2.2 (near_of hp), Option.bind_some, hw]
        rw [if_pos (ilt hi), if_pos (ige _), if_pos (ilt hi), if_pos hv.1, if_pos hv.2, if_pos hc]
    · refine ⟨fun s' hst => ⟨inv_next hs hp hst, fun r hE => ?_⟩, fun r hst => ?_⟩
      · unfold step at hst; dsimp only at hst; rw [if_neg hc] at hst; cases hst
        have hm3 := mx_le (show s.2.2.1 + dist s.2.2.2 (rd_T37 l v) ≤ 100000 by omega) (show (rd_T37 l v).f2 ≤ 100000 by omega)
        have hw2 : wrap64 ((rd_T37 l v).f2 - (s.2.2.1 + dist s.2.2.2 (rd_T37 l v))) = (rd_T37 l v).f2 - (s.2.2.1 + dist s.2.2.2 (rd_T37 l v)) := w64 (by omega) (by omega)
        have hsum : s.2.2.1 + dist s.2.2.2 (rd_T37 l v) + mx 0 ((rd_T37 l v).f2 - (s.2.2.1 + dist s.2.2.2 (rd_T37 l v))) = mx (s.2.2.1 + dist s.2.2.2 (rd_T37 l v)) (rd_T37 l v).f2 := by
          unfold mx; split <;> split <;> omega
        have hm2 := le_mx (s.2.2.1 + dist s.2.2.2 (rd_T37 l v)) (rd_T37 l v).f2
        have hw4 : wrap64 (mx (s.2.2.1 + dist s.2.2.2 (rd_T37 l v)) (rd_T37 l v).f2) = mx (s.2.2.1 + dist s.2.2.2 (rd_T37 l v)) (rd_T37 l v).f2 := w64 (by omega) (by omega)
        have hw3 : wrap64 (mx (s.2.2.1 + dist s.2.2.2 (rd_T37 l v)) (rd_T37 l v).f2 + (rd_T37 l v).f4) = mx (s.2.2.1 + dist s.2.2.2 (rd_T37 l v)) (rd_T37 l v).f2 + (rd_T37 l v).f4 := w64 (by omega) (by omega)
        refine Ev.step (fun k => ?_) hE
        simp only [impl_routeOf.l0, hr, dist_impl hs.2.2.2 (near_of hp), Option.bind_some, hw, hw2, hsum, hw4, hw3]
        rw [if_pos (ilt hi), if_pos (ige _), if_pos (ilt hi), if_pos hv.1, if_pos hv.2, if_neg hc, if_pos (by omega), wrap_succ hi hm]
        rfl
      · unfold step at hst; dsimp only at hst; rw [if_neg hc] at hst; cases hst
  · have hd := dist_bd hs.2.2.2 near0
    have hb := hs.2
    have hw : wrap64 (s.2.2.1 + dist s.2.2.2 ⟨0, 0, 0, 0, 0⟩) = s.2.2.1 + dist s.2.2.2 ⟨0, 0, 0, 0, 0⟩ := w64 (by omega) (by omega)
    refine ev_succ (fun k => ?_)
    simp only [impl_routeOf.l0]
    rw [if_neg (by omega), dist_impl (q := ⟨0, 0, 0, 0, 0⟩) hs.2.2.2 near0]
    simp only [Option.bind_some, hw]
    rfl
theorem code_min {l : List Sp} {a : Int} (h : codeB l a = 0) : (0 ≤ a ∧ a ≤ 100000) ∧ l.length ≤ 4096 := by
  unfold codeB at h
  split at h
  · omega
  · split at h
    · split at h
      · rename_i h1 _ h3; exact ⟨h3, by omega⟩
      · omega
    · omega
end Go.Proofs.Ytojncbpeeboooaa.ZRouteRQ
