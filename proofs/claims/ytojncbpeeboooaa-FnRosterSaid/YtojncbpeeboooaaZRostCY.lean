/- What stands against a worker of a shift: the program's answer and the reference's are the same. -/
import Derived.Test.YtojncbpeeboooaaZShiftsY
namespace Go.Proofs.Ytojncbpeeboooaa.ZRostCY
open Go.RowKit Go.Proofs.Ytojncbpeeboooaa.Y Go.Proofs.Ytojncbpeeboooaa.Lib Go.Proofs.Ytojncbpeeboooaa.ZNameY Go.Proofs.Ytojncbpeeboooaa.ZShiftsY Go.Proofs.YtojncbpeeboooaaW.PrintWords Go.Proofs.YtojncbpeeboooaaW.PrintLast Go.Proofs.YtojncbpeeboooaaW.PrintMore
theorem has_str (l : List ByteArray) (a : ByteArray) (hl : l.length ≤ maxLen) : Ev (fun k => spec_l00Has.f k l a) (l.any (eqS a)) := by
  unfold spec_l00Has.f
  have key := down_list l (P := fun i => Ev (fun k => spec_l00Has.l0 k l a (i : Int)) ((l.drop i).any (eqS a))) ?_ ?_
  · exact key
  · rw [List.drop_length]
    refine ev_succ (fun k => ?_)
    simp only [spec_l00Has.l0]
    rw [if_neg (by omega)]; rfl
  · intro i x hx hd ih
    have hi := some_lt hx
    have hr : rdOf ByteArray.empty l (i : Int) = x := getD_some hx
    rw [hd, List.any_cons]
    by_cases c : x.toList = a.toList
    · refine ev_succ (fun k => ?_)
      simp only [spec_l00Has.l0, hr]
      rw [if_pos (ilt hi), if_pos (ige _), if_pos c]
      unfold eqS
      rw [decide_eq_true c.symm, Bool.true_or]
    · refine Ev.step (fun k => ?_) (ev_eq ih ?_)
      · simp only [spec_l00Has.l0, hr]
        rw [if_pos (ilt hi), if_pos (ige _), if_neg c, wrap_succ hi hl]
      · have : eqS a x = false := decide_eq_false (fun h => c h.symm)
        rw [this, Bool.false_or]
theorem wr_id (m D a b : Int) : wrap64 (wrap64 (wrap64 (m + a) - b) + D) = wrap64 (wrap64 (wrap64 (m + D) + a) - b) := by unfold wrap64; omega
theorem wr_0 (a b : Int) : wrap64 (a - b) = wrap64 (wrap64 (0 + a) - b) := by unfold wrap64; omega
theorem code_ev {L : List Sh} {W : List Wo} {F : List Int} (hF : F.length ≤ L.length) (hL : L.length ≤ 4096) (hs : ∀ p ∈ W, p.f4.length ≤ maxLen) (i v : Nat) (hi : F[i]? = some (v : Int)) (hv : v < W.length) :
    ∃ c, Ev (fun k => impl_shiftCode.f k L W (F.take i) (v : Int)) c ∧ Ev (fun k => spec_l21Code.f k L W F (i : Int)) c := by
  have hil := some_lt hi
  have hlt : (F.take i).length = i := by rw [List.length_take]; omega
  have hri : rd F (i : Int) = (v : Int) := getD_some hi
  have hLi : i < L.length := by omega
  have hrL : rd_T139 L (i : Int) = L[i] := getD_some (List.getElem?_eq_getElem hLi)
  have hmem : W[v] ∈ W := List.getElem_mem hv
  have hrW : rd_T72 W (v : Int) = W[v] := getD_some (List.getElem?_eq_getElem hv)
  generalize L[i] = p at hrL
  generalize W[v] = w at hrW hmem
  have h1 := contains_str w.f4 p.f2 (hs w hmem)
  have h2 := has_str w.f4 p.f2 (hs w hmem)
  generalize w.f4.any (eqS p.f2) = hB at h1 h2
  have key := down (n := i) (P := fun j => ∀ (m s : Int) (c : Bool), s = wrap64 (wrap64 (m + p.f1) - p.f0) →
    ∃ r, Ev (fun k => impl_shiftCode.l0 k L (v : Int) m c (F.take i) (i : Int) (j : Int) p.f0 p.f1 p.f2 w.f0 w.f1 w.f2 w.f3 w.f4) (if hB = true then r else 13) ∧ Ev (fun k => spec_l21Code.l0 k L F (i : Int) s c (j : Int) w.f0 w.f1 w.f2 w.f3 w.f4) r) ?_ ?_ 0 (Nat.zero_le _)
  · obtain ⟨r, e1, e2⟩ := key 0 (wrap64 (p.f1 - p.f0)) false (wr_0 _ _)
    refine ⟨if hB = true then r else 13, ev_same e1 (fun k => ?_), ?_⟩
    · unfold impl_shiftCode.f
      simp only [hlt, hrL, hrW]
      rw [if_pos (ige _), if_pos (ilt hLi), if_pos (ige _), if_pos (ilt hv)]; rfl
    · unfold spec_l21Code.f
      simp only [hri, hrL, hrW]
      refine ev_pos (ige _) (ev_pos (ilt hil) (ev_pos (ige _) (ev_pos (ilt hv) (ev_pos (ilt hLi) (ev_bind h2 ?_)))))
      cases hB with
      | true => exact ev_pos rfl e2
      | false => exact ev_neg (by simp) (ev_some _)
  · intro m s c hsm
    refine ⟨if c = true then 12 else if s > w.f1 then 11 else 0, ?_, ev_succ (fun k => ?_)⟩
    · refine Ev.step (f := fun k => (slices_Contains_string_string.f k w.f4 p.f2).bind fun t => if t = true then (if c = true then (some 12) else (if s > w.f1 then (some 11) else (some 0))) else (some 13)) (fun k => ?_) (ev_bind h1 ?_)
      · simp only [impl_shiftCode.l0]
        rw [if_neg (by omega), hsm]
      · cases hB with
        | true =>
          refine ev_pos rfl (ev_const (fun k => ?_))
          cases c with
          | true => rfl
          | false =>
            by_cases g : s > w.f1
            · simp [g]
            · simp [g]
        | false => exact ev_neg (by simp) (ev_some _)
    · simp only [spec_l21Code.l0]
      rw [if_neg (by omega)]
      cases c with
      | true => rfl
      | false =>
        by_cases g : s > w.f1
        · simp [g]
        · simp [g]
  · intro j hj ih m s c hsm
    have hjF : j < F.length := by omega
    have hjL : j < L.length := by omega
    have hFj : F[j]? = some F[j] := List.getElem?_eq_getElem hjF
    have hrj : rd F (j : Int) = F[j] := getD_some hFj
    have hrt : rd (F.take i) (j : Int) = F[j] := getD_some (by rw [List.getElem?_take_of_lt hj]; exact hFj)
    have hrq : rd_T139 L (j : Int) = L[j] := getD_some (List.getElem?_eq_getElem hjL)
    generalize F[j] = y at hrj hrt
    generalize L[j] = q at hrq
    have ws : Aside0 (wrap64 ((j : Int) + 1) = ((j + 1 : Nat) : Int)) := ⟨wrap_succ hj (by unfold maxLen; omega)⟩
    have eI : ∀ k, impl_shiftCode.l0 (k + 1) L (v : Int) m c (F.take i) (i : Int) (j : Int) p.f0 p.f1 p.f2 w.f0 w.f1 w.f2 w.f3 w.f4 = if y = (v : Int) then impl_shiftCode.l0 k L (v : Int) (wrap64 (m + wrap64 (q.f1 - q.f0))) (c || decide (p.f0 < wrap64 (q.f1 + w.f2))) (F.take i) (i : Int) ((j + 1 : Nat) : Int) p.f0 p.f1 p.f2 w.f0 w.f1 w.f2 w.f3 w.f4 else impl_shiftCode.l0 k L (v : Int) m c (F.take i) (i : Int) ((j + 1 : Nat) : Int) p.f0 p.f1 p.f2 w.f0 w.f1 w.f2 w.f3 w.f4 := by
      intro k
      simp only [impl_shiftCode.l0, hrt, hrq, ws.out]
      rw [if_pos (ilt hj), if_pos (ige _), if_pos (by rw [hlt]; exact ilt hj)]
      by_cases g : y = (v : Int)
      · rw [if_pos g, if_pos g, if_pos (ilt hjL)]
        cases c with
        | true => rfl
        | false => rw [if_neg (by simp), Bool.false_or]
      · rw [if_neg g, if_neg g]
    have eS : ∀ k, spec_l21Code.l0 (k + 1) L F (i : Int) s c (j : Int) w.f0 w.f1 w.f2 w.f3 w.f4 = if y = (v : Int) then spec_l21Code.l0 k L F (i : Int) (wrap64 (s + wrap64 (q.f1 - q.f0))) (c || decide (p.f0 < wrap64 (q.f1 + w.f2))) ((j + 1 : Nat) : Int) w.f0 w.f1 w.f2 w.f3 w.f4 else spec_l21Code.l0 k L F (i : Int) s c ((j + 1 : Nat) : Int) w.f0 w.f1 w.f2 w.f3 w.f4 := by
      intro k
      simp only [spec_l21Code.l0, hrj, hri, hrq, hrL, ws.out]
      rw [if_pos (ilt hj), if_pos (ige _), if_pos (ilt hjF), if_pos (ige _), if_pos (ilt hil)]
      by_cases g : y = (v : Int)
      · rw [if_pos g, if_pos g, if_pos (ilt hjL)]
        cases c with
        | true => rfl
        | false => rw [if_neg (by simp), if_pos (ilt hLi), Bool.false_or]
      · rw [if_neg g, if_neg g]
    by_cases g : y = (v : Int)
    · obtain ⟨r, e1, e2⟩ := ih (wrap64 (m + wrap64 (q.f1 - q.f0))) (wrap64 (s + wrap64 (q.f1 - q.f0))) (c || decide (p.f0 < wrap64 (q.f1 + w.f2))) (by rw [hsm]; exact wr_id _ _ _ _)
      exact ⟨r, Ev.step eI (ev_pos g e1), Ev.step eS (ev_pos g e2)⟩
    · obtain ⟨r, e1, e2⟩ := ih m s c hsm
      exact ⟨r, Ev.step eI (ev_neg g e1), Ev.step eS (ev_neg g e2)⟩
end Go.Proofs.Ytojncbpeeboooaa.ZRostCY
