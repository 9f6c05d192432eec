/- BestRoster: the program's search, which leaves out what can't be cheaper, and the reference's come to the same. -/
import Derived.Test.YtojncbpeeboooaaZRostCY
namespace Go.Proofs.Ytojncbpeeboooaa.ZBestRoY
open Go.RowKit Go.Proofs.Ytojncbpeeboooaa.Y Go.Proofs.Ytojncbpeeboooaa.Lib Go.Proofs.Ytojncbpeeboooaa.ZNameY Go.Proofs.Ytojncbpeeboooaa.ZShiftsY Go.Proofs.Ytojncbpeeboooaa.ZRostCY Go.Proofs.YtojncbpeeboooaaW.PrintWords Go.Proofs.YtojncbpeeboooaaW.PrintLast Go.Proofs.YtojncbpeeboooaaW.PrintMore
theorem allSh_mem {l : List Sh} : ∀ (n : Nat), allSh l n = true → ∀ i, l.length - n ≤ i → (hi : i < l.length) → okSh l i l[i] = true
  | 0, _, i, h1, hi => by omega
  | n + 1, h, i, h1, hi => by
    unfold allSh at h
    by_cases e : l.length - (n + 1) < l.length
    · rw [List.getElem?_eq_getElem e] at h
      dsimp only at h
      rw [Bool.and_eq_true] at h
      by_cases e2 : i = l.length - (n + 1)
      · subst e2; exact h.1
      · exact allSh_mem n h.2 i (by omega) hi
    · omega
structure Ok (L : List Sh) (W : List Wo) : Prop where
  n8 : L.length ≤ 8
  n5 : W.length ≤ 5
  sh : ∀ i : Nat, i < L.length → 0 ≤ (rd_T139 L (i : Int)).f1 - (rd_T139 L (i : Int)).f0 ∧ (rd_T139 L (i : Int)).f1 - (rd_T139 L (i : Int)).f0 ≤ 10080
  wo : ∀ i : Nat, i < W.length → 0 ≤ (rd_T72 W (i : Int)).f3 ∧ (rd_T72 W (i : Int)).f3 ≤ 1000
theorem ok_of {L : List Sh} {W : List Wo} (h : shB L W = true) : Ok L W := by
  unfold shB woB at h
  rw [Bool.and_eq_true, Bool.and_eq_true, Bool.and_eq_true] at h
  obtain ⟨h1, h2, h3, _⟩ := h
  have h1 := of_decide_eq_true h1
  refine ⟨h1.1, h1.2, fun i hi => ?_, fun i hi => ?_⟩
  · have hr : rd_T139 L (i : Int) = L[i] := getD_some (List.getElem?_eq_getElem hi)
    have := allSh_mem L.length h2 i (by omega) hi
    unfold okSh at this
    rw [Bool.and_eq_true] at this
    have := of_decide_eq_true this.1
    rw [hr]; omega
  · have hr : rd_T72 W (i : Int) = W[i] := getD_some (List.getElem?_eq_getElem hi)
    have := List.all_eq_true.1 h3 W[i] (List.getElem_mem hi)
    unfold okWo at this
    simp only [Bool.and_eq_true, decide_eq_true_eq] at this
    rw [hr]; exact this.2.2.2.1
def tm (L : List Sh) (W : List Wo) (i : Nat) (x : Int) : Int := ((rd_T139 L (i : Int)).f1 - (rd_T139 L (i : Int)).f0) * (rd_T72 W x).f3
def cz (L : List Sh) (W : List Wo) : Nat → List Int → Int
  | _, [] => 0
  | i, x :: o => tm L W i x + cz L W (i + 1) o
def In (W : List Wo) (o : List Int) : Prop := ∀ x ∈ o, ∃ v : Nat, x = (v : Int) ∧ v < W.length
theorem tm_bd {L : List Sh} {W : List Wo} (h : Ok L W) {i v : Nat} (hi : i < L.length) (hv : v < W.length) : 0 ≤ tm L W i (v : Int) ∧ tm L W i (v : Int) ≤ 10080000 := by
  have h1 := h.sh i hi
  have h2 := h.wo v hv
  unfold tm
  refine ⟨Int.mul_nonneg h1.1 h2.1, ?_⟩
  exact Int.mul_le_mul h1.2 h2.2 h2.1 (by decide)
theorem cz_app (L : List Sh) (W : List Wo) : ∀ (o : List Int) (i : Nat) (m : List Int), cz L W i (o ++ m) = cz L W i o + cz L W (i + o.length) m
  | [], i, m => by simp [cz]
  | x :: o, i, m => by
    rw [List.cons_append, cz, cz, cz_app L W o (i + 1) m, List.length_cons, show i + 1 + o.length = i + (o.length + 1) by omega]
    omega
theorem cost_impl {L : List Sh} {W : List Wo} (h : Ok L W) {o : List Int} (ho : In W o) (hl : o.length ≤ L.length) : Ev (fun k => impl_costOf.f k L W o) (cz L W 0 o) := by
  have h8 := h.n8
  unfold impl_costOf.f
  have key := down_list o (P := fun i => ∀ m : Int, 0 ≤ m → m ≤ 10080000 * (i : Int) → Ev (fun k => impl_costOf.l0 k L W m o (o.length : Int) (i : Int)) (m + cz L W i (o.drop i))) ?_ ?_
  · exact ev_eq (key 0 (Int.le_refl _) (by simp)) (by simp)
  · intro m _ _
    rw [List.drop_length]
    refine ev_succ (fun k => ?_)
    simp only [impl_costOf.l0]
    rw [if_neg (by omega), cz, Int.add_zero]
  · intro i x hx hd ih m h0 h1
    have hi := some_lt hx
    have hr : rd o (i : Int) = x := getD_some hx
    obtain ⟨v, rfl, hv⟩ := ho x (List.mem_of_getElem? hx)
    have hb := tm_bd h (i := i) (by omega) hv
    have hs := h.sh i (by omega)
    have w1 : wrap64 ((rd_T139 L (i : Int)).f1 - (rd_T139 L (i : Int)).f0) = (rd_T139 L (i : Int)).f1 - (rd_T139 L (i : Int)).f0 := w64 (by omega) (by omega)
    have w2 : wrap64 (((rd_T139 L (i : Int)).f1 - (rd_T139 L (i : Int)).f0) * (rd_T72 W (v : Int)).f3) = tm L W i (v : Int) := w64 (by unfold tm at hb; omega) (by unfold tm at hb; omega)
    have w3 : wrap64 (m + tm L W i (v : Int)) = m + tm L W i (v : Int) := w64 (by omega) (by omega)
    rw [hd, cz]
    refine Ev.step (fun k => ?_) (ev_eq (ih (m + tm L W i (v : Int)) (by omega) (by omega)) (by omega))
    simp only [impl_costOf.l0, hr]
    rw [if_pos (ilt hi), if_pos (ige _), if_pos (ilt hi), if_pos (ilt (show i < L.length by omega)), if_pos (ige _), if_pos (ilt hv), w1, w2, w3, wrap_succ hi (by unfold maxLen; omega)]
theorem cost_spec {L : List Sh} {W : List Wo} (h : Ok L W) {o : List Int} (ho : In W o) (hl : o.length ≤ L.length) : Ev (fun k => spec_l21Cost.f k L W o) (cz L W 0 o) := by
  have h8 := h.n8
  unfold spec_l21Cost.f
  have key := down_list o (P := fun i => ∀ m : Int, 0 ≤ m → m ≤ 10080000 * (i : Int) → Ev (fun k => spec_l21Cost.l0 k L W o m (i : Int)) (m + cz L W i (o.drop i))) ?_ ?_
  · exact ev_eq (key 0 (Int.le_refl _) (by simp)) (by simp)
  · intro m _ _
    rw [List.drop_length]
    refine ev_succ (fun k => ?_)
    simp only [spec_l21Cost.l0]
    rw [if_neg (by omega), cz, Int.add_zero]
  · intro i x hx hd ih m h0 h1
    have hi := some_lt hx
    have hr : rd o (i : Int) = x := getD_some hx
    obtain ⟨v, rfl, hv⟩ := ho x (List.mem_of_getElem? hx)
    have hb := tm_bd h (i := i) (by omega) hv
    have hs := h.sh i (by omega)
    have w1 : wrap64 ((rd_T139 L (i : Int)).f1 - (rd_T139 L (i : Int)).f0) = (rd_T139 L (i : Int)).f1 - (rd_T139 L (i : Int)).f0 := w64 (by omega) (by omega)
    have w2 : wrap64 (((rd_T139 L (i : Int)).f1 - (rd_T139 L (i : Int)).f0) * (rd_T72 W (v : Int)).f3) = tm L W i (v : Int) := w64 (by unfold tm at hb; omega) (by unfold tm at hb; omega)
    have w3 : wrap64 (m + tm L W i (v : Int)) = m + tm L W i (v : Int) := w64 (by omega) (by omega)
    rw [hd, cz]
    refine Ev.step (fun k => ?_) (ev_eq (ih (m + tm L W i (v : Int)) (by omega) (by omega)) (by omega))
    simp only [spec_l21Cost.l0, hr]
    rw [if_pos (ilt hi), if_pos (ige _), if_pos (ilt (show i < L.length by omega)), if_pos (ige _), if_pos (ilt hv), w1, w2, w3, wrap_succ hi (by unfold maxLen; omega)]
theorem ev_one {α : Type} {g : Nat → Option α} {a b : α} (h1 : Ev g a) (h2 : Ev g b) : a = b := by
  obtain ⟨n, h1⟩ := h1
  obtain ⟨m, h2⟩ := h2
  have e1 := h1 (n + m) (by omega)
  have e2 := h2 (n + m) (by omega)
  rw [e1] at e2
  exact Option.some.inj e2
open Classical in
noncomputable def cdv (L : List Sh) (W : List Wo) (o : List Int) (v : Nat) : Int := if h : ∃ c, Ev (fun k => impl_shiftCode.f k L W o (v : Int)) c then h.choose else 0
theorem cdv_ev {L : List Sh} {W : List Wo} (hL : L.length ≤ 4096) (hs : ∀ p ∈ W, p.f4.length ≤ maxLen) {o : List Int} {v : Nat} (ho : o.length < L.length) (hv : v < W.length) :
    Ev (fun k => impl_shiftCode.f k L W o (v : Int)) (cdv L W o v) ∧ Ev (fun k => spec_l21Code.f k L W (o ++ [(v : Int)]) (o.length : Int)) (cdv L W o v) := by
  obtain ⟨c, e1, e2⟩ := code_ev (L := L) (W := W) (F := o ++ [(v : Int)]) (by rw [List.length_append, List.length_cons, List.length_nil]; omega) hL hs o.length v (by simp) hv
  rw [List.take_left] at e1
  have h : ∃ c, Ev (fun k => impl_shiftCode.f k L W o (v : Int)) c := ⟨c, e1⟩
  have : cdv L W o v = c := by
    unfold cdv
    rw [dif_pos h]
    exact ev_one h.choose_spec e1
  rw [this]
  exact ⟨e1, e2⟩
abbrev Bs := Bool × List Int × Int
abbrev Bz := List Int × Int × Bool
def toZ (s : Bs) : Bz := (s.2.1, s.2.2, s.1)
def upd (o : List Int) (c : Int) (s : Bs) : Bs := if s.1 = true then (if c < s.2.2 then (true, o, c) else s) else (true, o, c)
theorem upd_1 {o : List Int} {c : Int} {s : Bs} (h2 : s.1 = true) (h3 : c < s.2.2) : upd o c s = (true, o, c) := by unfold upd; rw [if_pos h2, if_pos h3]
theorem upd_2 {o : List Int} {c : Int} {s : Bs} (h2 : s.1 = true) (h3 : ¬ c < s.2.2) : upd o c s = s := by unfold upd; rw [if_pos h2, if_neg h3]
theorem upd_3 {o : List Int} {c : Int} {s : Bs} (h2 : ¬ s.1 = true) : upd o c s = (true, o, c) := by unfold upd; rw [if_neg h2]
noncomputable def lp (L : List Sh) (W : List Wo) (o : List Int) (g : List Int → Bs → Bs) : Nat → Bs → Bs
  | 0, s => s
  | m + 1, s => lp L W o g m (if cdv L W o (W.length - (m + 1)) = 0 then g (o ++ [((W.length - (m + 1) : Nat) : Int)]) s else s)
noncomputable def srch (L : List Sh) (W : List Wo) : Nat → List Int → Bs → Bs
  | 0, o, s => upd o (cz L W 0 o) s
  | d + 1, o, s => lp L W o (srch L W d) W.length s
theorem in_app {W : List Wo} {o : List Int} {v : Nat} (ho : In W o) (hv : v < W.length) : In W (o ++ [(v : Int)]) := by
  intro x hx
  rcases List.mem_append.1 hx with h | h
  · exact ho x h
  · exact ⟨v, List.mem_singleton.1 h, hv⟩
theorem lp_same {L : List Sh} {W : List Wo} {o : List Int} {g : List Int → Bs → Bs} {s : Bs} (h : ∀ v : Nat, v < W.length → g (o ++ [(v : Int)]) s = s) : ∀ m, m ≤ W.length → lp L W o g m s = s
  | 0, _ => rfl
  | m + 1, hm => by
    unfold lp
    rw [h _ (by omega), ite_self]
    exact lp_same h m (by omega)
theorem cz_one {L : List Sh} {W : List Wo} {i : Nat} {x : Int} : cz L W i [x] = tm L W i x := by simp [cz]
theorem prune {L : List Sh} {W : List Wo} (hk : Ok L W) : ∀ (d : Nat) (o : List Int) (s : Bs), o.length + d = L.length → In W o → s.1 = true → cz L W 0 o ≥ s.2.2 → srch L W d o s = s
  | 0, o, s, _, _, h1, h2 => by unfold srch; exact upd_2 h1 (by omega)
  | d + 1, o, s, hd, ho, h1, h2 => by
    unfold srch
    refine lp_same (fun v hv => ?_) _ (Nat.le_refl _)
    refine prune hk d (o ++ [(v : Int)]) s (by rw [List.length_append, List.length_cons, List.length_nil]; omega) (in_app ho hv) h1 ?_
    rw [cz_app, cz_one]
    have := tm_bd hk (i := 0 + o.length) (by omega) hv
    omega
theorem clone_eq {o : List Int} (h : o.length ≤ 4096) : slices_Clone_int_int.f o = some o := by
  unfold slices_Clone_int_int.f
  simp only [Option.bind_some, List.length_nil, Nat.zero_add, List.nil_append]
  rw [if_pos (show o.length < 17592186044416 by omega)]
theorem impl_ev {L : List Sh} {W : List Wo} (hk : Ok L W) (hs : ∀ p ∈ W, p.f4.length ≤ maxLen) : ∀ (d : Nat) (o : List Int) (s : Bs), o.length + d = L.length → In W o → Ev (fun k => impl_BestRoster_1.f k o L W s.1 s.2.1 s.2.2) (srch L W d o s) := by
  have h8 := hk.n8
  have h5 := hk.n5
  intro d
  induction d with
  | zero =>
    intro o s hd ho
    have hc := cost_impl hk ho (by omega)
    have j1 : s.1 = true → cz L W 0 o ≥ s.2.2 → ∀ c, Ev (fun k => impl_BestRoster_1.j0 k o c true L W s.1 s.2.1 s.2.2) (srch L W 0 o s) := fun h1 h2 c => by
      rw [prune hk 0 o s hd ho h1 h2]
      exact ev_succ (fun k => by simp only [impl_BestRoster_1.j0]; rw [if_pos trivial])
    have j0 : Ev (fun k => impl_BestRoster_1.j0 k o (cz L W 0 o) false L W s.1 s.2.1 s.2.2) ((true, o, cz L W 0 o) : Bs) := ev_succ (fun k => by
      simp only [impl_BestRoster_1.j0, clone_eq (show o.length ≤ 4096 by omega), Option.bind_some]
      rw [if_neg (by simp), if_pos (by omega)])
    refine Ev.step (f := fun k => (impl_costOf.f k L W o).bind fun t161 => (if s.1 = true then (impl_BestRoster_1.j0 k o t161 (decide (t161 ≥ s.2.2)) L W s.1 s.2.1 s.2.2) else (impl_BestRoster_1.j0 k o t161 false L W s.1 s.2.1 s.2.2))) (fun k => by simp only [impl_BestRoster_1.f]) (ev_bind hc ?_)
    by_cases h1 : s.1 = true
    · refine ev_pos h1 ?_
      by_cases h2 : cz L W 0 o ≥ s.2.2
      · rw [decide_eq_true h2]; exact j1 h1 h2 _
      · rw [decide_eq_false h2]
        unfold srch
        rw [upd_1 h1 (by omega)]
        exact j0
    · refine ev_neg h1 ?_
      unfold srch
      rw [upd_3 h1]
      exact j0
  | succ d ihd =>
    intro o s hd ho
    have hc := cost_impl hk ho (by omega)
    have jn : Ev (fun k => impl_BestRoster_1.j0 k o (cz L W 0 o) false L W s.1 s.2.1 s.2.2) (srch L W (d + 1) o s) := by
      refine Ev.step (f := fun k => impl_BestRoster_1.l0 k o (W.length : Int) ((0 : Nat) : Int) L W s.1 s.2.1 s.2.2) (fun k => ?_) ?_
      · simp only [impl_BestRoster_1.j0]
        rw [if_neg (by simp), if_neg (by omega)]; rfl
      · unfold srch
        have key := down (n := W.length) (P := fun i => ∀ s : Bs, Ev (fun k => impl_BestRoster_1.l0 k o (W.length : Int) (i : Int) L W s.1 s.2.1 s.2.2) (lp L W o (srch L W d) (W.length - i) s)) ?_ ?_ 0 (Nat.zero_le _) s
        · exact key
        · intro s
          rw [Nat.sub_self]
          refine ev_succ (fun k => ?_)
          simp only [impl_BestRoster_1.l0]
          rw [if_neg (by omega)]; rfl
        · intro i hi ih s
          obtain ⟨m, hm⟩ : ∃ m, W.length - i = m + 1 := ⟨W.length - i - 1, by omega⟩
          rw [hm]
          unfold lp
          rw [show W.length - (m + 1) = i by omega]
          rw [show W.length - (i + 1) = m by omega] at ih
          have hw : Aside0 (wrap64 ((i : Int) + 1) = ((i + 1 : Nat) : Int)) := ⟨wrap_succ hi (by unfold maxLen; omega)⟩
          have hcd := (cdv_ev (L := L) (W := W) (by omega) hs (o := o) (v := i) (by omega) hi).1
          refine Ev.step (f := fun k => (impl_shiftCode.f k L W o (i : Int)).bind fun t => if t = 0 then (impl_BestRoster_1.f k (o ++ [(i : Int)]) L W s.1 s.2.1 s.2.2).bind fun bt => impl_BestRoster_1.l0 k o (W.length : Int) ((i + 1 : Nat) : Int) L W bt.1 bt.2.1 bt.2.2 else impl_BestRoster_1.l0 k o (W.length : Int) ((i + 1 : Nat) : Int) L W s.1 s.2.1 s.2.2) (fun k => ?_) (ev_bind hcd ?_)
          · simp only [impl_BestRoster_1.l0, hw.out, clone_eq (show o.length ≤ 4096 by omega), Option.bind_some, List.length_cons, List.length_nil, Nat.zero_add]
            rw [if_pos (ilt hi)]
            simp only [if_pos (show o.length + 1 < 17592186044416 by omega)]
          · by_cases h0 : cdv L W o i = 0
            · rw [if_pos h0]
              exact ev_pos h0 (ev_bind (ihd (o ++ [(i : Int)]) s (by rw [List.length_append, List.length_cons, List.length_nil]; omega) (in_app ho hi)) (ih _))
            · rw [if_neg h0]
              exact ev_neg h0 (ih s)
    refine Ev.step (f := fun k => (impl_costOf.f k L W o).bind fun t161 => (if s.1 = true then (impl_BestRoster_1.j0 k o t161 (decide (t161 ≥ s.2.2)) L W s.1 s.2.1 s.2.2) else (impl_BestRoster_1.j0 k o t161 false L W s.1 s.2.1 s.2.2))) (fun k => by simp only [impl_BestRoster_1.f]) (ev_bind hc ?_)
    by_cases h1 : s.1 = true
    · refine ev_pos h1 ?_
      by_cases h2 : cz L W 0 o ≥ s.2.2
      · rw [decide_eq_true h2, prune hk (d + 1) o s hd ho h1 h2]
        exact ev_succ (fun k => by simp only [impl_BestRoster_1.j0]; rw [if_pos trivial])
      · rw [decide_eq_false h2]; exact jn
    · exact ev_neg h1 jn
theorem spec_ev {L : List Sh} {W : List Wo} (hk : Ok L W) (hs : ∀ p ∈ W, p.f4.length ≤ maxLen) : ∀ (d : Nat) (o : List Int) (s : Bs), o.length + d = L.length → In W o → Ev (fun k => spec_l21Search_try.f k L W s.2.1 s.2.2 s.1 o) (toZ (srch L W d o s)) := by
  have h8 := hk.n8
  have h5 := hk.n5
  intro d
  induction d with
  | zero =>
    intro o s hd ho
    have hc := cost_spec hk ho (by omega)
    refine Ev.step (f := fun k => (spec_l21Cost.f k L W o).bind fun t227 => (if s.1 = true then (if t227 < s.2.2 then (some (o, t227, true)) else (some (s.2.1, s.2.2, s.1))) else (some (o, t227, true)))) (fun k => ?_) (ev_bind hc ?_)
    · simp only [spec_l21Search_try.f]
      rw [if_pos (by omega)]
    · unfold srch
      by_cases h1 : s.1 = true
      · by_cases h2 : cz L W 0 o < s.2.2
        · rw [upd_1 h1 h2]; exact ev_pos h1 (ev_pos h2 (ev_some _))
        · rw [upd_2 h1 h2]; exact ev_pos h1 (ev_neg h2 (ev_some _))
      · rw [upd_3 h1]; exact ev_neg h1 (ev_some _)
  | succ d ihd =>
    intro o s hd ho
    refine Ev.step (f := fun k => spec_l21Search_try.l0 k o ((0 : Nat) : Int) L W s.2.1 s.2.2 s.1) (fun k => ?_) ?_
    · simp only [spec_l21Search_try.f]
      rw [if_neg (by omega)]; rfl
    · unfold srch
      have key := down (n := W.length) (P := fun i => ∀ s : Bs, Ev (fun k => spec_l21Search_try.l0 k o (i : Int) L W s.2.1 s.2.2 s.1) (toZ (lp L W o (srch L W d) (W.length - i) s))) ?_ ?_ 0 (Nat.zero_le _) s
      · exact key
      · intro s
        rw [Nat.sub_self]
        refine ev_succ (fun k => ?_)
        simp only [spec_l21Search_try.l0]
        rw [if_neg (by omega)]; rfl
      · intro i hi ih s
        obtain ⟨m, hm⟩ : ∃ m, W.length - i = m + 1 := ⟨W.length - i - 1, by omega⟩
        rw [hm]
        unfold lp
        rw [show W.length - (m + 1) = i by omega]
        rw [show W.length - (i + 1) = m by omega] at ih
        have hw : Aside0 (wrap64 ((i : Int) + 1) = ((i + 1 : Nat) : Int)) := ⟨wrap_succ hi (by unfold maxLen; omega)⟩
        have hcd := (cdv_ev (L := L) (W := W) (by omega) hs (o := o) (v := i) (by omega) hi).2
        refine Ev.step (f := fun k => (spec_l21Code.f k L W (o ++ [(i : Int)]) (o.length : Int)).bind fun t => if t = 0 then (spec_l21Search_try.f k L W s.2.1 s.2.2 s.1 (o ++ [(i : Int)])).bind fun bt => spec_l21Search_try.l0 k o ((i + 1 : Nat) : Int) L W bt.1 bt.2.1 bt.2.2 else spec_l21Search_try.l0 k o ((i + 1 : Nat) : Int) L W s.2.1 s.2.2 s.1) (fun k => ?_) (ev_bind hcd ?_)
        · simp only [spec_l21Search_try.l0, hw.out, Option.bind_some, List.length_nil, Nat.zero_add, List.nil_append]
          rw [if_pos (ilt hi)]
          simp only [if_pos (show o.length < 17592186044416 by omega)]
        · by_cases h0 : cdv L W o i = 0
          · rw [if_pos h0]
            exact ev_pos h0 (ev_bind (ihd (o ++ [(i : Int)]) s (by rw [List.length_append, List.length_cons, List.length_nil]; omega) (in_app ho hi)) (ih _))
          · rw [if_neg h0]
            exact ev_neg h0 (ih s)
abbrev Rz := List Int × Int × Int
noncomputable def bestB (L : List Sh) (W : List Wo) : Rz := if L.length ≤ 4096 ∧ W.length ≤ 4096 then (if shB L W = true then (if (srch L W L.length [] (false, [], 0)).1 = true then ((srch L W L.length [] (false, [], 0)).2.1, (srch L W L.length [] (false, [], 0)).2.2, 0) else ([], 0, 8)) else ([], 0, 1)) else ([], 0, 2)
theorem best_impl (L : List Sh) (W : List Wo) (hl : L.length ≤ 1048576) (hw : W.length ≤ 1048576) (hs : ∀ p ∈ W, p.f4.length ≤ maxLen) : Ev (fun k => impl_BestRoster.f k L W) (bestB L W) := by
  have bad : Ev (fun k => impl_BestRoster.j0 k true L W) (([], 0, 2) : Rz) := ev_succ (fun k => by simp only [impl_BestRoster.j0]; rw [if_pos trivial])
  unfold impl_BestRoster.f impl_Shift.f impl_Worker.f bestB
  simp only [Option.bind_some]
  by_cases h1 : L.length ≤ 4096
  · refine ev_pos (decide_eq_true (by omega)) ?_
    by_cases h2 : W.length ≤ 4096
    · rw [if_pos ⟨h1, h2⟩, decide_eq_true (show (W.length : Int) ≤ 4096 by omega)]
      refine Ev.step (f := fun k => (impl_ShiftsOK.f k L W).bind fun t185 => (if t185 = true then ((impl_BestRoster_1.f k ([] : List Int) L W false ([] : List Int) 0).bind fun bt189 => (if bt189.1 = true then (some (bt189.2.1, bt189.2.2, 0)) else (some (([] : List Int), 0, 8)))) else (some (([] : List Int), 0, 1)))) (fun k => by simp only [impl_BestRoster.j0]; rw [if_neg (by simp)]) (ev_bind (shifts_impl L W (by unfold maxLen; omega) (by omega) hs) ?_)
      by_cases h3 : shB L W = true
      · rw [if_pos h3]
        refine ev_pos h3 (ev_bind (impl_ev (ok_of h3) hs L.length [] (false, [], 0) (by simp) (by intro x hx; cases hx)) ?_)
        by_cases g : (srch L W L.length [] (false, [], 0)).1 = true
        · simp only [if_pos g]; exact ev_some _
        · simp only [if_neg g]; exact ev_some _
      · rw [if_neg h3]; exact ev_neg h3 (ev_some _)
    · rw [if_neg (by omega), decide_eq_false (show ¬ (W.length : Int) ≤ 4096 by omega)]
      exact bad
  · rw [if_neg (by omega)]
    refine ev_neg (by rw [decide_eq_true_eq]; omega) bad
theorem best_spec (L : List Sh) (W : List Wo) (hl : L.length ≤ 1048576) (hw : W.length ≤ 1048576) (hs : ∀ p ∈ W, p.f4.length ≤ maxLen) : Ev (fun k => spec_BestRoster.f k L W) (bestB L W) := by
  have bad : Ev (fun k => spec_BestRoster.j0 k L W true) (([], 0, 2) : Rz) := ev_succ (fun k => by simp only [spec_BestRoster.j0]; rw [if_pos trivial])
  unfold spec_BestRoster.f bestB
  by_cases h1 : L.length ≤ 4096
  · refine ev_neg (by omega) ?_
    by_cases h2 : W.length ≤ 4096
    · rw [if_pos ⟨h1, h2⟩, decide_eq_false (show ¬ (W.length : Int) > 4096 by omega)]
      refine Ev.step (f := fun k => (spec_ShiftsOK.f k L W).bind fun t244 => (if t244 = true then ((spec_l21Search_try.f k L W ([] : List Int) 0 false (([] : List Int))).bind fun bt249 => (if bt249.2.2 = true then (some (bt249.1, bt249.2.1, 0)) else (some (([] : List Int), 0, 8)))) else (some (([] : List Int), 0, 1)))) (fun k => by simp only [spec_BestRoster.j0]; rw [if_neg (by simp)]) (ev_bind (shifts_spec L W (by unfold maxLen; omega) (by unfold maxLen; omega) hs) ?_)
      by_cases h3 : shB L W = true
      · rw [if_pos h3]
        refine ev_pos h3 (ev_bind (spec_ev (ok_of h3) hs L.length [] (false, [], 0) (by simp) (by intro x hx; cases hx)) ?_)
        by_cases g : (srch L W L.length [] (false, [], 0)).1 = true
        · rw [if_pos g]; exact ev_pos g (ev_some _)
        · rw [if_neg g]; exact ev_neg g (ev_some _)
      · rw [if_neg h3]; exact ev_neg h3 (ev_some _)
    · rw [if_neg (by omega), decide_eq_true (show (W.length : Int) > 4096 by omega)]
      exact bad
  · rw [if_neg (by omega)]
    exact ev_pos (by omega) bad
end Go.Proofs.Ytojncbpeeboooaa.ZBestRoY
