-- made by pp.py (wip/tools) out of the translation; Lean checks it
import Derived.Test.YthjchjnibbapcaaJ0
import Derived.Test.YthjchjnibbapcaaJ2
import Derived.Test.YthjchjnibbapcaaJ3
namespace Go.Proofs.Ythjchjnibbapcaa.J
open Go.RowKit Go.Proofs.YthjchjnibbapcaaW.PrintWords Go.Proofs.YthjchjnibbapcaaW.PrintLast Go.Proofs.YthjchjnibbapcaaW.PrintMore
attribute [local go_sem] max2_int min2_int max_two min_two max_three min_three max_four min_four   -- for this text's walks alone
set_option linter.unusedVariables false
set_option linter.unusedSimpArgs false

/-! ### spec_BestPath: function 6 -/
/- The reference's search: its masks, and its memo. -/
def lf (h0 h1 h2 : Int) (a c : S45) : Int := (spec_l19Far.f h0 h1 h2 a.f0 a.f1 c.f0 c.f1).getD 0
theorem lf_eq (h0 h1 h2 a0 a1 c0 c1 : Int) : spec_l19Far.f h0 h1 h2 a0 a1 c0 c1 = some (lf h0 h1 h2 ⟨a0, a1⟩ ⟨c0, c1⟩) := by
  unfold lf
  unfold spec_l19Far.f
  split <;> rfl
def cmp (n mk : Nat) : Nat := (2 ^ n - 1) ^^^ mk
theorem cmp_bit {n mk i : Nat} (hi : i < n) : (cmp n mk).testBit i = !mk.testBit i := by
  unfold cmp
  rw [Nat.testBit_xor, Nat.testBit_two_pow_sub_one]
  simp [hi]
theorem cmp_lt {n mk : Nat} (h : mk < 2 ^ n) : cmp n mk < 2 ^ n := Nat.xor_lt_two_pow (full_lt n) h
theorem cmp_full (n : Nat) : cmp n (2 ^ n - 1) = 0 := Nat.xor_self _
theorem cmp_none (n : Nat) : cmp n 0 = 2 ^ n - 1 := Nat.xor_zero _
theorem cmp_zero {n mk : Nat} (hm : mk < 2 ^ n) (h : cmp n mk = 0) : mk = 2 ^ n - 1 := by
  apply Nat.eq_of_testBit_eq
  intro i
  rw [Nat.testBit_two_pow_sub_one]
  by_cases hi : i < n
  · have := cmp_bit (mk := mk) hi
    rw [h, Nat.zero_testBit] at this
    cases hb : mk.testBit i with
    | true => simp [hi]
    | false => rw [hb] at this; simp at this
  · rw [Nat.testBit_lt_two_pow (Nat.lt_of_lt_of_le hm (Nat.pow_le_pow_right (by omega) (by omega)))]
    simp [hi]
def orb (mk i : Nat) : Nat := mk ||| 2 ^ i
theorem orb_lt {n mk i : Nat} (h : mk < 2 ^ n) (hi : i < n) : orb mk i < 2 ^ n := Nat.or_lt_two_pow h (Nat.pow_lt_pow_right (by omega) hi)
theorem cmp_or {n mk i : Nat} (hi : i < n) (hb : mk.testBit i = false) : cmp n (orb mk i) = clr (cmp n mk) i := by
  apply Nat.eq_of_testBit_eq
  intro j
  unfold cmp orb clr
  rw [Nat.testBit_xor, Nat.testBit_xor, Nat.testBit_xor, Nat.testBit_or, Nat.testBit_two_pow]
  by_cases e : i = j
  · subst e; simp [hb]
  · simp [e]
theorem i64_or (mk i : Nat) (hm : mk < 2 ^ 62) (hi : i < 62) : bits .or .i64 (mk : Int) (wrap64 (2 ^ i)) = ((orb mk i : Nat) : Int) := by
  rw [two_pow_i64 i hi]
  exact (bits_nat .i64 62 (by decide) (fun n h0 h1 => by rw [IntKind.wrap_i64]; omega) mk (2 ^ i) hm (Nat.pow_lt_pow_right (by omega) hi)).2
def atS (l : List S45) (la : Nat) : S45 := if la < l.length then rd_T45 l (la : Int) else ⟨0, 0⟩
def VV (D : S45 → S45 → Int) (l : List S45) (mk la : Nat) : Int := sh D l (cmp l.length mk) (atS l la)
/-- The memo: a list of numbers in a block of its own; what is not negative is right. -/
def MemoOK (w0 W : World) (mb c n : Nat) (V : Nat → Nat → Int) : Prop :=
  ∃ ms : List Int, (Kd.int .i64).R 3 W w0.heap.size (fun k => k = mb) (.slice (some ⟨mb, 0, none⟩) ms.length c) ms ∧ ms.length = (n + 1) * 2 ^ n ∧ ∀ mk la : Nat, la ≤ n → ∀ v, ms[mk * (n + 1) + la]? = some v → 0 ≤ v → v = V mk la
theorem MemoOK.keep {w0 W W1 : World} {mb c n : Nat} {V : Nat → Nat → Int} (h : MemoOK w0 W mb c n V) (he : W1.heap[mb]? = W.heap[mb]?) : MemoOK w0 W1 mb c n V := by
  obtain ⟨ms, h1, h2, h3⟩ := h
  exact ⟨ms, Kd.R_step h1 (fun k hk _ => by subst hk; exact he), h2, h3⟩
theorem MemoOK.lt {w0 W : World} {mb c n : Nat} {V : Nat → Nat → Int} (h : MemoOK w0 W mb c n V) : mb < W.heap.size := by
  obtain ⟨ms, h1, h2, h3⟩ := h
  have hp : 0 < ms.length := by rw [h2]; exact Nat.mul_pos (by omega) (Nat.two_pow_pos n)
  obtain ⟨g, cap, e, _, hg, _⟩ := Kd.R_form h1 hp
  injection e with e1
  injection e1 with e1
  injection e1 with e1
  subst e1
  exact hg
theorem MemoOK.go {w0 W W1 : World} {mb c n : Nat} {V : Nat → Nat → Int} (h : MemoOK w0 W mb c n V) (hb : Below W.heap.size W W1) : MemoOK w0 W1 mb c n V := h.keep (hb.block mb h.lt)
theorem memo_ix {n mk la : Nat} (hm : mk < 2 ^ n) (hl : la ≤ n) : mk * (n + 1) + la < (n + 1) * 2 ^ n := by
  have : (mk + 1) * (n + 1) ≤ 2 ^ n * (n + 1) := Nat.mul_le_mul_right _ hm
  rw [Nat.succ_mul] at this
  rw [Nat.mul_comm (n + 1)]
  omega
theorem memo_inj {n mk la mk' la' : Nat} (h : mk * (n + 1) + la = mk' * (n + 1) + la') (hl : la ≤ n) (hl' : la' ≤ n) : mk = mk' ∧ la = la' := by
  have e1 : (mk * (n + 1) + la) % (n + 1) = la := by rw [Nat.mul_comm, Nat.mul_add_mod, Nat.mod_eq_of_lt (by omega)]
  have e2 : (mk' * (n + 1) + la') % (n + 1) = la' := by rw [Nat.mul_comm, Nat.mul_add_mod, Nat.mod_eq_of_lt (by omega)]
  have hla : la = la' := by rw [← e1, ← e2, h]
  subst hla
  have : mk * (n + 1) = mk' * (n + 1) := by omega
  exact ⟨Nat.eq_of_mul_eq_mul_right (by omega) this, rfl⟩
/-- Behind the store of the value at its place. -/
theorem MemoOK.store {w0 W : World} {mb c n : Nat} {V : Nat → Nat → Int} (h : MemoOK w0 W mb c n V) {mk la : Nat} (hl : la ≤ n) : MemoOK w0 (W.setCell ⟨mb, mk * (n + 1) + la, none⟩ (.int .i64 (V mk la))) mb c n V := by
  obtain ⟨ms, h1, h2, h3⟩ := h
  have hp := (Kd.R_putg h1 ((mk * (n + 1) + la : Nat) : Int) (V mk la)).1
  rw [Int.toNat_natCast] at hp
  refine ⟨ms.set (mk * (n + 1) + la) (V mk la), by rw [List.length_set]; exact hp, by rw [List.length_set]; exact h2, ?_⟩
  intro mk' la' hl' v hv h0
  rw [List.getElem?_set] at hv
  split at hv
  · rename_i e
    obtain ⟨rfl, rfl⟩ := memo_inj e hl hl'
    split at hv
    · injection hv with hv; exact hv.symm
    · cases hv
  · exact h3 mk' la' hl' v hv h0
theorem MemoOK.cell {w0 W : World} {mb c n : Nat} {V : Nat → Nat → Int} (h : MemoOK w0 W mb c n V) {mk la : Nat} (hm : mk < 2 ^ n) (hl : la ≤ n) :
    ∃ v : Int, W.cell? ⟨mb, mk * (n + 1) + la, none⟩ = some (.int .i64 v) ∧ W.frozen? ⟨mb, mk * (n + 1) + la, none⟩ = false ∧ (0 ≤ v → v = V mk la) := by
  obtain ⟨ms, h1, h2, h3⟩ := h
  have hix := memo_ix hm hl
  have hc := Kd.R_celln 0 h1 ((mk * (n + 1) + la : Nat) : Int) (by omega) (by omega)
  rw [Int.toNat_natCast] at hc
  refine ⟨_, hc.1, hc.2, fun h0 => h3 mk la hl _ ?_ h0⟩
  rw [List.getElem?_eq_getElem (by omega)]
  congr 1
  show _ = ms.getD _ 0
  rw [Int.toNat_natCast, List.getD_eq_getElem?_getD, List.getElem?_eq_getElem (by omega)]
  rfl
theorem MemoOK.len {w0 W : World} {mb c n : Nat} {V : Nat → Nat → Int} (h : MemoOK w0 W mb c n V) : ∃ k, k = (n + 1) * 2 ^ n ∧ MemoOK w0 W mb c n V := ⟨_, rfl, h⟩
/- (*l19Search).least by hand. -/
structure Sl (w0 w : World) (mb xb : Nat) (XC : Array Value) (L : List Blk) (W : World) : Prop where
  st : St w0 w mb L W
  x : W.heap[xb]? = some (.cells XC 51 (0, 0))
  ne : xb ≠ mb
  lt : xb < w.heap.size
section
variable {w0 w : World} {mb xb : Nat} {XC : Array Value} {L : List Blk} {W W1 : World}
theorem Sl.go (h : Sl w0 w mb xb XC L W) (hb : Below W.heap.size W W1) : Sl w0 w mb xb XC L W1 := ⟨h.st.go hb, blk_below h.x hb, h.ne, h.lt⟩
theorem Sl.drew (h : Sl w0 w mb xb XC L W) : Sl w0 w mb xb XC L W.drew := h.go (below_drew1 (Below.refl _ _))
theorem Sl.box (h : Sl w0 w mb xb XC L W) {g : Nat} {cs : Array Value} {t : TypeId} (hg : g = W.heap.size) (hn : W1.heap[g]? = some (.cells cs t (0, 0))) (hb : Below W.heap.size W W1) : Sl w0 w mb xb XC ((g, cs, t) :: L) W1 := ⟨h.st.box hg hn hb, blk_below h.x hb, h.ne, h.lt⟩
theorem Sl.put (h : Sl w0 w mb xb XC L W) (i j : Nat) (v : Value) {g : Nat} {cs cs' : Array Value} {t : TypeId} (hi : L[i]? = some (g, cs, t)) (hc : cs.setIfInBounds j v = cs') : Sl w0 w mb xb XC (L.set i (g, cs', t)) (W.setCell ⟨g, j, none⟩ v) :=
  ⟨h.st.put i j v hi hc, blk_far h.x (p := ⟨g, j, none⟩) (by have := (h.st.blks _ (List.mem_of_getElem? hi)).2.2; have := h.lt; simp only at *; omega) v, h.ne, h.lt⟩
theorem Sl.call (h : Sl w0 w mb xb XC L W) (hb : Below w0.heap.size w0 W1) (hk : Kept W W1 (fun k => k = mb)) : Sl w0 w mb xb XC L W1 := ⟨h.st.call hb hk, blk_kept h.x hk h.ne, h.ne, h.lt⟩
theorem Sl.memo (h : Sl w0 w mb xb XC L W) (j : Nat) (v : Value) : Sl w0 w mb xb XC L (W.setCell ⟨mb, j, none⟩ v) :=
  h.call (below_set h.st.below h.st.ge) (Kept.setCell (S := fun k => k = mb) (p := ⟨mb, j, none⟩) (Kept.refl _ _) (.inl rfl) v)
theorem box_sl {Pg : Program} {ops : Array Oper} {Qx : Exit → Act → World → Prop} {rest : List Oper} {o : Oper} {a : Act} (H : Sl w0 w mb xb XC L W) (N : Tmp) (cs : Array Value) (t : TypeId) (hd : o.dst = some N) (h : ∀ g w1, Sl w0 w mb xb XC ((g, cs, t) :: L) w1 → (∀ c n V, MemoOK w0 W mb c n V → MemoOK w0 w1 mb c n V) → wpList Pg ops Qx rest (a.put o.dst (.pointer (some ⟨g, 0, none⟩))) w1)
    (hgd : o.guard = none := by rfl) (hr : (execOp a.eval o).run Pg W = .ok (.value (.pointer (some ⟨W.heap.size, 0, none⟩))) (W.alloc (.cells cs t (0, 0))) := by first | (go_simp; done) | (go_simp; rfl)) : wpList Pg ops Qx (o :: rest) a W :=
  box_event hgd hd hr (fun g hg w1 hn hb => h g w1 (H.box hg hn hb) (fun c n V hm => hm.go hb))
theorem ix_i64 {mk n la : Nat} (hm : mk < 512) (hn : n ≤ 9) (hl : la ≤ n) : wrap64 (wrap64 ((mk : Int) * ((n : Int) + 1)) + (la : Int)) = ((mk * (n + 1) + la : Nat) : Int) := by
  have h5 : mk * (n + 1) ≤ 512 * 10 := Nat.mul_le_mul (by omega) (by omega)
  have h6 : (mk : Int) * ((n : Int) + 1) = ((mk * (n + 1) : Nat) : Int) := by simp
  rw [h6]
  generalize mk * (n + 1) = q at h5 ⊢
  unfold wrap64
  omega
theorem u64_cv {i : Nat} (hi : i < 9) : min (IntKind.u64.wrap (i : Int)).toNat 64 = i := by
  rw [IntKind.wrap_u64]
  omega
theorem MemoOK.far' {c n : Nat} {V : Nat → Nat → Int} (h : MemoOK w0 W mb c n V) (hs : Sl w0 w mb xb XC L W) {i : Nat} {g j : Nat} {cs : Array Value} {t : TypeId} (hi : L[i]? = some (g, cs, t)) (v : Value) : MemoOK w0 (W.setCell ⟨g, j, none⟩ v) mb c n V :=
  h.keep (Below.heap_setCell W ⟨g, j, none⟩ v mb (hs.st.ne i hi))
end
def sl.T6 : Bool × List (List Nat × List Nat) := (true, [([], []), ([0], [0]), ([1], [1]), ([2], [2]), ([], []), ([], []), ([3, 4, 5], [3, 4, 5]), ([6, 6, 0, 1, 2, 3, 4, 5, 6], [6])])
def sl.B6 : List Nat := [0, 1, 3, 7, 0, 0, 63, 127]
theorem sl.tab6 : rtab .any (opsOf Try.f20 6) = sl.T6 := by kernel_rfl
theorem sl.bits6 : waitsOk sl.T6.2 sl.B6 = true := by kernel_rfl
def sl.T15 : Bool × List (List Nat × List Nat) := (true, [([], []), ([0], [0]), ([1], [1]), ([2], [2]), ([], []), ([], []), ([5], [5]), ([6], [6]), ([7], [7]), ([], []), ([8, 9], [8, 9]), ([10], [10]), ([3, 4, 11], [3, 4, 11]), ([], []), ([], []), ([], []), ([15], [15]), ([16], [16]), ([14, 17], [14, 17]), ([], []), ([13, 18, 19, 12], [13, 18, 19]), ([12, 20], [12, 20]), ([21, 20, 0, 1, 2, 3, 4, 5, 6, 7, 8, 9, 10, 11, 12, 13, 14, 15, 16, 17, 18, 19, 20, 21], [21])])
def sl.B15 : List Nat := [0, 1, 3, 7, 0, 0, 32, 96, 224, 0, 992, 2016, 4095, 0, 0, 0, 32768, 98304, 245760, 0, 1048575, 2097151, 4194303]
theorem sl.tab15 : rtab .any (opsOf Try.f20 15) = sl.T15 := by kernel_rfl
theorem sl.bits15 : waitsOk sl.T15.2 sl.B15 = true := by kernel_rfl
set_option maxHeartbeats 64000000 in
set_option maxRecDepth 100000 in
theorem least_calls (h0 h1 h2 : Int) (A : Option Addr) (c : Nat) (l : List S45) (hl9 : l.length ≤ 9) (w0 : World) (hC : Kd.C k45 w0 A l.length l) (hc : l.length ≤ c) (mb xb c2 : Nat) (hmb : w0.heap.size ≤ mb) (hxm : xb ≠ mb) (NN M0 : Nat) (hNN : NN = (l.length + 1) * 2 ^ l.length) (hM0 : M0 = 2 ^ l.length - 1) :
    ∀ (k mk la : Nat) (w : World), mk < 2 ^ l.length → la ≤ l.length → pc l.length (cmp l.length mk) ≤ k → Below w0.heap.size w0 w → w.heap[xb]? = some (.cells #[.int .i64 h0, .int .i64 h1, .int .i64 h2, .slice A l.length c, .slice (some ⟨mb, 0, none⟩) NN c2] 51 (0, 0)) → MemoOK w0 w mb c2 l.length (VV (lf h0 h1 h2) l) →
      Calls Try.prog 20 #[.pointer (some ⟨xb, 0, none⟩), .int .i64 (mk : Int), .int .i64 (la : Int)] w (fun e w' => e = .returned (.int .i64 (VV (lf h0 h1 h2) l mk la)) ∧ Below w0.heap.size w0 w' ∧ Kept w w' (fun g => g = mb) ∧ MemoOK w0 w' mb c2 l.length (VV (lf h0 h1 h2) l)) := by
  intro k
  induction k using Nat.strongRecOn with
  | ind k ih =>
    intro mk la w hm hla hpc hB hx hM
    have HM5 := Aside0.mk (show mk < 512 from Nat.lt_of_lt_of_le hm (Nat.pow_le_pow_right (n := 2) (by decide) hl9))
    have HM6 := Aside0.mk (show mk < 2 ^ 62 from Nat.lt_of_lt_of_le HM5.out (by decide))
    have hu29 := Try.underlying29
    have hu45 := Try.underlying45
    have hu51 := Try.underlying51
    have S0 := Aside0.mk (show Sl w0 w mb xb #[.int .i64 h0, .int .i64 h1, .int .i64 h2, .slice A l.length c, .slice (some ⟨mb, 0, none⟩) NN c2] [] w from ⟨St.mk0 hB hmb hM.lt, hx, hxm, blk_lt hx⟩)
    have M0 := Aside0.mk hM
    have HC := Aside0.mk hC
    have IH := Aside0.mk ih
    have HN0 := Aside0.mk hNN
    have HM0 := Aside0.mk hM0
    clear ih hB hM hC hx hNN hM0
    have zx0 : w.cell? ⟨xb, 0, none⟩ = some (.int .i64 h0) := (blk_cell S0.out.x 0).trans rfl
    have zx1 : w.cell? ⟨xb, 1, none⟩ = some (.int .i64 h1) := (blk_cell S0.out.x 1).trans rfl
    have zx2 : w.cell? ⟨xb, 2, none⟩ = some (.int .i64 h2) := (blk_cell S0.out.x 2).trans rfl
    have zx3 : w.cell? ⟨xb, 3, none⟩ = some (.slice A l.length c) := (blk_cell S0.out.x 3).trans rfl
    have zx4 : w.cell? ⟨xb, 4, none⟩ = some (.slice (some ⟨mb, 0, none⟩) NN c2) := (blk_cell S0.out.x 4).trans rfl
    go_enter Try.func20, Try.ntmps20
    go_upto_if 21 with (first | (refine box_sl S0.out 8 (H2 0 0) 45 rfl ?_; intro ab w1 h_ m_; have S1 := Aside0.mk h_; have M1 := Aside0.mk (m_ _ _ _ M0.out); clear h_ m_; have za0 : w1.cell? ⟨ab, 0, none⟩ = some (.int .i64 0) := (S1.out.st.cell 0 rfl 0).trans rfl; have za1 : w1.cell? ⟨ab, 1, none⟩ = some (.int .i64 0) := (S1.out.st.cell 0 rfl 1).trans rfl; have fa0 := S1.out.st.froz 0 rfl 0; have fa1 := S1.out.st.froz 0 rfl 1))
    have S2 := Aside0.mk ((S1.out.put 0 0 (.int .i64 0) rfl rfl).put 0 1 (.int .i64 0) rfl rfl)
    have M2 := Aside0.mk ((M1.out.far' S1.out (i := 0) rfl (.int .i64 0) (j := 0)).far' (S1.out.put 0 0 (.int .i64 0) rfl rfl) (i := 0) rfl (.int .i64 0) (j := 1))
    generalize (w1.setCell ⟨ab, 0, none⟩ (.int .i64 0)).setCell ⟨ab, 1, none⟩ (.int .i64 0) = w2 at S2 M2 ⊢
    replace S2 : Aside0 (Sl w0 w mb xb #[.int .i64 h0, .int .i64 h1, .int .i64 h2, .slice A l.length c, .slice (some ⟨mb, 0, none⟩) NN c2] [(ab, H2 0 0, 45)] w2) := S2
    clear S1 M1 S0 M0 za0 za1 fa0 fa1 zx0 zx1 zx2 zx3 zx4
    go_cut [] from 22 to 28 (fun wc => Aside0 (Sl w0 w mb xb #[.int .i64 h0, .int .i64 h1, .int .i64 h2, .slice A l.length c, .slice (some ⟨mb, 0, none⟩) NN c2] [(ab, H2 (atS l la).f0 (atS l la).f1, 45)] wc) ∧ Aside0 (MemoOK w0 wc mb c2 l.length (VV (lf h0 h1 h2) l)))
    case first =>
      have zx0 : w2.cell? ⟨xb, 0, none⟩ = some (.int .i64 h0) := (blk_cell S2.out.x 0).trans rfl
      have zx1 : w2.cell? ⟨xb, 1, none⟩ = some (.int .i64 h1) := (blk_cell S2.out.x 1).trans rfl
      have zx2 : w2.cell? ⟨xb, 2, none⟩ = some (.int .i64 h2) := (blk_cell S2.out.x 2).trans rfl
      have zx3 : w2.cell? ⟨xb, 3, none⟩ = some (.slice A l.length c) := (blk_cell S2.out.x 3).trans rfl
      have zx4 : w2.cell? ⟨xb, 4, none⟩ = some (.slice (some ⟨mb, 0, none⟩) NN c2) := (blk_cell S2.out.x 4).trans rfl
      have za0 : w2.cell? ⟨ab, 0, none⟩ = some (.int .i64 0) := (S2.out.st.cell 0 rfl 0).trans rfl
      have za1 : w2.cell? ⟨ab, 1, none⟩ = some (.int .i64 0) := (S2.out.st.cell 0 rfl 1).trans rfl
      have fa0 := S2.out.st.froz 0 rfl 0
      have fa1 := S2.out.st.froz 0 rfl 1
      by_cases hlt : la < l.length
      · have hltb : decide (la < l.length) = true := decide_eq_true hlt
        obtain ⟨ad, e, hx0, hx1⟩ := at_T45 HC.out (la : Int) (by omega) (by omega)
        cases e
        replace hx0 := (S2.out.st.below.cell (World.block_lt_of_cell? w0 _ hx0)).trans hx0
        replace hx1 := (S2.out.st.below.cell (World.block_lt_of_cell? w0 _ hx1)).trans hx1
        rw [Int.toNat_natCast] at hx0 hx1
        have hp0 : (0 ≤ (la : Int)) = True := eq_true (by omega)
        have hp1 : ((la : Int) < (l.length : Int)) = True := eq_true (by omega)
        have hat := Aside0.mk (show atS l la = rd_T45 l (la : Int) by unfold atS; rw [if_pos hlt])
        rw [← hat.out] at hx0 hx1
        go_wp2
        go_meet
        case rel => exact ⟨⟨(S2.out.put 0 0 (.int .i64 (atS l la).f0) rfl rfl).put 0 1 (.int .i64 (atS l la).f1) rfl rfl⟩, ⟨(M2.out.far' S2.out (i := 0) rfl (.int .i64 (atS l la).f0) (j := 0)).far' (S2.out.put 0 0 (.int .i64 (atS l la).f0) rfl rfl) (i := 0) rfl (.int .i64 (atS l la).f1) (j := 1)⟩⟩
      · have hltb : decide (la < l.length) = false := decide_eq_false hlt
        have hat := Aside0.mk (show atS l la = ⟨0, 0⟩ by unfold atS; rw [if_neg hlt])
        go_wp2
        go_meet
        case rel => rw [hat.out]; exact ⟨S2, M2⟩
    case rest =>
      obtain ⟨SC, MC⟩ := hcut
      clear S2 M2
      obtain ⟨pk, hpk⟩ : ∃ pk, pk = atS l la := ⟨_, rfl⟩
      rw [← hpk] at SC
      have HPK := Aside0.mk hpk
      clear hpk
      have zx0 : wc.cell? ⟨xb, 0, none⟩ = some (.int .i64 h0) := (blk_cell SC.out.x 0).trans rfl
      have zx1 : wc.cell? ⟨xb, 1, none⟩ = some (.int .i64 h1) := (blk_cell SC.out.x 1).trans rfl
      have zx2 : wc.cell? ⟨xb, 2, none⟩ = some (.int .i64 h2) := (blk_cell SC.out.x 2).trans rfl
      have zx3 : wc.cell? ⟨xb, 3, none⟩ = some (.slice A l.length c) := (blk_cell SC.out.x 3).trans rfl
      have zx4 : wc.cell? ⟨xb, 4, none⟩ = some (.slice (some ⟨mb, 0, none⟩) NN c2) := (blk_cell SC.out.x 4).trans rfl
      have za0 : wc.cell? ⟨ab, 0, none⟩ = some (.int .i64 pk.f0) := (SC.out.st.cell 0 rfl 0).trans rfl
      have za1 : wc.cell? ⟨ab, 1, none⟩ = some (.int .i64 pk.f1) := (SC.out.st.cell 0 rfl 1).trans rfl
      go_upto_if 34 with (fail)
      by_cases hf : mk = M0
      · have hfb : ((mk : Int) == wrap64 (wrap64 (2 ^ l.length) - 1)) = true := by rw [full_i64 l.length hl9, ← HM0.out, hf]; exact beq_self_eq_true _
        have HF := Aside0.mk hf
        clear hf
        go_upto_region 6 with (fail)
        try go_wp2
        have HD := Aside0.mk SC.out.drew
        have MD : Aside0 (MemoOK w0 wc.drew mb c2 l.length (VV (lf h0 h1 h2) l)) := ⟨MC.out.keep rfl⟩
        clear SC MC
        refine start_ (n := 8) (S := fun w' => w'.cell? ⟨xb, 0, none⟩ = some (.int .i64 h0) ∧ w'.cell? ⟨xb, 1, none⟩ = some (.int .i64 h1) ∧ w'.cell? ⟨xb, 2, none⟩ = some (.int .i64 h2) ∧ w'.cell? ⟨ab, 0, none⟩ = some (.int .i64 pk.f0) ∧ w'.cell? ⟨ab, 1, none⟩ = some (.int .i64 pk.f1)) (ds := []) (xM 8 0) (by kernel_rfl) rfl rfl ⟨(blk_cell HD.out.x 0).trans rfl, (blk_cell HD.out.x 1).trans rfl, (blk_cell HD.out.x 2).trans rfl, (HD.out.st.cell 0 rfl 0).trans rfl, (HD.out.st.cell 0 rfl 1).trans rfl⟩ (fun hHeld => ?_)
        refine with_tabW sl.tab6 sl.bits6 (fun HT_ HW_ => ?_)
        generalize wc.drew = wd_ at HD MD hHeld ⊢
        refine xP 0 35 (xM 8 1) HT_ ?_
        refine xP 1 36 (xM 8 3) HT_ ?_
        refine xP 2 37 (xM 8 7) HT_ ?_
        refine xQ 3 38 (xM 8 15) HT_ HW_ hHeld ?_
        refine xQ 4 39 (xM 8 31) HT_ HW_ hHeld ?_
        refine xP 5 40 (xM 8 63) HT_ ?_
        refine one_ (i := 6) (N := some 41) (xM 8 127) rfl rfl (one_of HT_.out (by kernel_rfl)) (by decide) (fun K hK => ?_)
        refine goes_ Try.func19 (by kernel_rfl) rfl #[.agg (H3 h0 h1 h2), .agg (H2 pk.f0 pk.f1), .agg (H2 0 0)] (by rfl) rfl rfl (by (try simp only [List.map_toArray, List.map_cons, List.map_nil]); first | done | rfl) ?_
        with_reducible refine (spec_l19Far.calls h0 h1 h2 pk.f0 pk.f1 0 0 _ _ (lf_eq ..)).mono ?_
        rintro e w5 ⟨rfl, hb9⟩
        refine ⟨_, rfl, ?_⟩
        have S5 := Aside0.mk (HD.out.go hb9)
        have M5 := Aside0.mk (MD.out.go hb9)
        clear hb9
        refine hK.out _ _ ⟨(blk_cell S5.out.x 0).trans rfl, (blk_cell S5.out.x 1).trans rfl, (blk_cell S5.out.x 2).trans rfl, (S5.out.st.cell 0 rfl 0).trans rfl, (S5.out.st.cell 0 rfl 1).trans rfl⟩ (fun hHeld => ?_)
        clear hK K
        refine norm_ (a' := ?_) ?_ ?_
        rotate_left
        · show Act.put _ (some 41) _ = _
          simp only [Act.put, List.setIfInBounds_toArray, List.set_cons_zero, List.set_cons_succ, i64_w, i32_w]
          rfl
        refine xP 7 6 (xM 8 255) HT_ ?_
        refine done_ (done_of HT_.out (by kernel_rfl)) ?_
        clear HT_ HW_ hHeld
        go_wp2
        go_ret
        exact ⟨by unfold VV; rw [HF.out, HM0.out, cmp_full, sh_zero, ← HPK.out]; rfl, S5.out.st.below, S5.out.st.kept, M5.out⟩
      · have hfb : ((mk : Int) == wrap64 (wrap64 (2 ^ l.length) - 1)) = false := by rw [full_i64 l.length hl9, ← HM0.out]; exact beq_eq_false_iff_ne.mpr (by omega)
        have HF := Aside0.mk hf
        clear hf
        obtain ⟨ix, hie⟩ : ∃ ix, ix = mk * (l.length + 1) + la := ⟨_, rfl⟩
        have HIE := Aside0.mk hie
        have HIX := Aside0.mk (show ix < NN by rw [HN0.out, hie]; exact memo_ix hm hla)
        have hiw : wrap64 (wrap64 ((mk : Int) * ((l.length : Int) + 1)) + (la : Int)) = (ix : Int) := by rw [ix_i64 HM5.out hl9 hla, hie]
        have HIW := Aside0.mk hiw
        clear hiw
        obtain ⟨v, hv0, hv1, hv2⟩ := MC.out.cell hm hla
        rw [← hie] at hv0 hv1
        have HV2 := Aside0.mk hv2
        clear hie hv2
        go_upto_region 8 with (fail)
        rw [HIW.out, hfb]
        have hp0 : (0 ≤ (ix : Int)) = True := eq_true (by omega)
        have hp1 : ((ix : Int) < (NN : Int)) = True := eq_true (by have := HIX.out; omega)
        by_cases hv : 0 ≤ v
        · have hvb : decide (0 ≤ v) = true := decide_eq_true hv
          have HVV := Aside0.mk (HV2.out hv)
          clear hv
          go_wp2
          go_ret
          exact ⟨congrArg (fun x => Ending.returned (.int .i64 x)) HVV.out, SC.out.st.below, SC.out.st.kept, MC.out⟩
        have hvb : decide (0 ≤ v) = false := decide_eq_false hv
        clear hv
        go_wp2
        clear hfb hv0 hv1 hvb zx0 zx1 zx2 zx3 zx4 za0 za1
        have HPC := Aside0.mk (show 0 < pc l.length (cmp l.length mk) from by
          rcases Nat.eq_zero_or_pos (pc l.length (cmp l.length mk)) with h | h
          · exact absurd (cmp_zero hm (pc_zero (cmp_lt hm) h)) (by rw [← HM0.out]; exact HF.out)
          · exact h)
        have HCZ := Aside0.mk (show cmp l.length mk ≠ 0 from fun h => HF.out (by rw [HM0.out]; exact cmp_zero hm h))
        go_loopg [11, 10] l.length (fun kq v11 v10 wr => ∃ i : Nat, v11 = .int .i64 (i : Int) ∧ v10 = .int .i64 (bestI (fun i => wrap64 (lf h0 h1 h2 pk (rd_T45 l i) + sh (lf h0 h1 h2) l (clr (cmp l.length mk) i) (rd_T45 l i))) (fun i => (cmp l.length mk).testBit i) i) ∧ Aside0 (i ≤ l.length) ∧ Aside0 (l.length - i ≤ kq) ∧ Aside0 (Sl w0 w mb xb #[.int .i64 h0, .int .i64 h1, .int .i64 h2, .slice A l.length c, .slice (some ⟨mb, 0, none⟩) NN c2] [(ab, H2 pk.f0 pk.f1, 45)] wr) ∧ Aside0 (MemoOK w0 wr mb c2 l.length (VV (lf h0 h1 h2) l)))
        case atStart => exact ⟨0, rfl, rfl, ⟨by omega⟩, ⟨by omega⟩, SC, MC⟩
        case round =>
          obtain ⟨i, rfl, rfl, GI, GK, SR, MR⟩ := hrel
          clear SC MC
          have zx0 : wr.cell? ⟨xb, 0, none⟩ = some (.int .i64 h0) := (blk_cell SR.out.x 0).trans rfl
          have zx1 : wr.cell? ⟨xb, 1, none⟩ = some (.int .i64 h1) := (blk_cell SR.out.x 1).trans rfl
          have zx2 : wr.cell? ⟨xb, 2, none⟩ = some (.int .i64 h2) := (blk_cell SR.out.x 2).trans rfl
          have zx3 : wr.cell? ⟨xb, 3, none⟩ = some (.slice A l.length c) := (blk_cell SR.out.x 3).trans rfl
          have zx4 : wr.cell? ⟨xb, 4, none⟩ = some (.slice (some ⟨mb, 0, none⟩) NN c2) := (blk_cell SR.out.x 4).trans rfl
          have za0 : wr.cell? ⟨ab, 0, none⟩ = some (.int .i64 pk.f0) := (SR.out.st.cell 0 rfl 0).trans rfl
          have za1 : wr.cell? ⟨ab, 1, none⟩ = some (.int .i64 pk.f1) := (SR.out.st.cell 0 rfl 1).trans rfl
          by_cases hlt : i < l.length
          · have hltb : decide (i < l.length) = true := decide_eq_true hlt
            have hltb2 : decide ((i : Int) < (l.length : Int)) = true := decide_eq_true (by omega)
            have hi9 : i < 9 := by omega
            have HI := Aside0.mk hlt
            clear hlt
            cases hbt : mk.testBit i with
            | true =>
              have hb' : (bits .and .i64 ((mk : Int) / 2 ^ i) 1 == 1) = true := by rw [i64_bit mk i HM6.out, hbt]
              go_wp2
              go_roundg (l.length - (i + 1))
              case measure => have := GK.out; have := HI.out; omega
              case rel => exact ⟨i + 1, by simp, by rw [bestI, if_neg (by rw [cmp_bit HI.out, hbt]; decide)], ⟨HI.out⟩, ⟨Nat.le_refl _⟩, SR, MR⟩
            | false =>
              have hb' : (bits .and .i64 ((mk : Int) / 2 ^ i) 1 == 1) = false := by rw [i64_bit mk i HM6.out, hbt]
              have HB := Aside0.mk hbt
              obtain ⟨ad, e, hx0, hx1⟩ := at_T45 HC.out (i : Int) (by omega) (by have := HI.out; omega)
              cases e
              rw [Int.toNat_natCast] at hx0 hx1
              have hp2 : (0 ≤ (i : Int)) = True := eq_true (by omega)
              have hp3 : ((i : Int) < (l.length : Int)) = True := eq_true (by have := HI.out; omega)
              obtain ⟨pi, hpi⟩ : ∃ pi, pi = rd_T45 l (i : Int) := ⟨_, rfl⟩
              rw [← hpi] at hx0 hx1
              have HPI := Aside0.mk hpi
              have HX0 := Aside0.mk hx0
              have HX1 := Aside0.mk hx1
              clear hpi hx0 hx1 hbt
              go_upto_region 15 with (fail)
              go_cut [12] from 74 to 95 (fun v12 wc => v12 = .int .i64 (wrap64 (lf h0 h1 h2 pk pi + sh (lf h0 h1 h2) l (clr (cmp l.length mk) i) pi)) ∧ Aside0 (Sl w0 w mb xb #[.int .i64 h0, .int .i64 h1, .int .i64 h2, .slice (some ad) l.length c, .slice (some ⟨mb, 0, none⟩) NN c2] [(ab, H2 pk.f0 pk.f1, 45)] wc) ∧ Aside0 (MemoOK w0 wc mb c2 l.length (VV (lf h0 h1 h2) l)))
              case first =>
                try go_wp2
                have HD := Aside0.mk SR.out.drew
                have MD : Aside0 (MemoOK w0 wr.drew mb c2 l.length (VV (lf h0 h1 h2) l)) := ⟨MR.out.keep rfl⟩
                refine start_ (n := 23) (S := fun w' => w'.cell? ⟨xb, 0, none⟩ = some (.int .i64 h0) ∧ w'.cell? ⟨xb, 1, none⟩ = some (.int .i64 h1) ∧ w'.cell? ⟨xb, 2, none⟩ = some (.int .i64 h2) ∧ w'.cell? ⟨xb, 3, none⟩ = some ((.slice (some ad) l.length c)) ∧ w'.cell? ⟨xb, 4, none⟩ = some (.slice (some ⟨mb, 0, none⟩) NN c2) ∧ w'.cell? ⟨ab, 0, none⟩ = some (.int .i64 pk.f0) ∧ w'.cell? ⟨ab, 1, none⟩ = some (.int .i64 pk.f1) ∧ w'.cell? (ad.add (i * 2)) = some (.int .i64 pi.f0) ∧ w'.cell? ⟨(ad.add (i * 2)).block, (ad.add (i * 2)).off + 1, none⟩ = some (.int .i64 pi.f1)) (ds := []) (xM 23 0) (by kernel_rfl) rfl rfl ⟨(blk_cell HD.out.x 0).trans rfl, (blk_cell HD.out.x 1).trans rfl, (blk_cell HD.out.x 2).trans rfl, (blk_cell HD.out.x 3).trans rfl, (blk_cell HD.out.x 4).trans rfl, (HD.out.st.cell 0 rfl 0).trans rfl, (HD.out.st.cell 0 rfl 1).trans rfl, (HD.out.st.below.cell (World.block_lt_of_cell? w0 _ HX0.out)).trans HX0.out, (HD.out.st.below.cell (World.block_lt_of_cell? w0 _ HX1.out)).trans HX1.out⟩ (fun hHeld => ?_)
                refine with_tabW sl.tab15 sl.bits15 (fun HT_ HW_ => ?_)
                generalize wr.drew = wd_ at HD MD hHeld ⊢
                refine xP 0 74 (xM 23 1) HT_ ?_
                refine xP 1 75 (xM 23 3) HT_ ?_
                refine xP 2 76 (xM 23 7) HT_ ?_
                refine xQ 3 77 (xM 23 15) HT_ HW_ hHeld ?_
                refine xQ 4 78 (xM 23 31) HT_ HW_ hHeld ?_
                refine xP 5 79 (xM 23 63) HT_ ?_
                refine xP 6 80 (xM 23 127) HT_ ?_
                refine xP 7 81 (xM 23 255) HT_ ?_
                refine xQ 8 82 (xM 23 511) HT_ HW_ hHeld ?_
                refine xP 9 83 (xM 23 1023) HT_ ?_
                refine xP 10 84 (xM 23 2047) HT_ ?_
                refine xQ 11 85 (xM 23 4095) HT_ HW_ hHeld ?_
                refine xP 13 87 (xM 23 12287) HT_ ?_
                refine xP 14 88 (xM 23 28671) HT_ ?_
                refine xP 15 89 (xM 23 61439) HT_ ?_
                refine xP 16 90 (xM 23 126975) HT_ ?_
                refine xP 17 91 (xM 23 258047) HT_ ?_
                refine xP 18 92 (xM 23 520191) HT_ ?_
                rw [u64_cv hi9, i64_or mk i HM6.out (by omega)]
                refine xP 19 93 (xM 23 1044479) HT_ ?_
                refine one_ (i := 12) (N := some 86) (xM 23 1048575) rfl rfl (one_of HT_.out (by kernel_rfl)) (by decide) (fun K hK => ?_)
                refine goes_ Try.func19 (by kernel_rfl) rfl #[.agg (H3 h0 h1 h2), .agg (H2 pk.f0 pk.f1), .agg (H2 pi.f0 pi.f1)] (by rfl) rfl rfl (by (try simp only [List.map_toArray, List.map_cons, List.map_nil]); first | done | rfl) ?_
                with_reducible refine (spec_l19Far.calls h0 h1 h2 pk.f0 pk.f1 pi.f0 pi.f1 _ _ (lf_eq ..)).mono ?_
                rintro e w5 ⟨rfl, hb9⟩
                refine ⟨_, rfl, ?_⟩
                have S5 := Aside0.mk (HD.out.go hb9)
                have M5 := Aside0.mk (MD.out.go hb9)
                clear hb9
                refine hK.out _ _ ⟨(blk_cell S5.out.x 0).trans rfl, (blk_cell S5.out.x 1).trans rfl, (blk_cell S5.out.x 2).trans rfl, (blk_cell S5.out.x 3).trans rfl, (blk_cell S5.out.x 4).trans rfl, (S5.out.st.cell 0 rfl 0).trans rfl, (S5.out.st.cell 0 rfl 1).trans rfl, (S5.out.st.below.cell (World.block_lt_of_cell? w0 _ HX0.out)).trans HX0.out, (S5.out.st.below.cell (World.block_lt_of_cell? w0 _ HX1.out)).trans HX1.out⟩ (fun hHeld => ?_)
                clear hK K
                refine norm_ (a' := ?_) ?_ ?_
                rotate_left
                · show Act.put _ (some 86) _ = _
                  simp only [Act.put, List.setIfInBounds_toArray, List.set_cons_zero, List.set_cons_succ, i64_w, i32_w]
                  rfl
                refine one_ (i := 20) (N := some 94) (xM 23 2097151) rfl rfl (one_of HT_.out (by kernel_rfl)) (by decide) (fun K hK => ?_)
                refine goes_ Try.func20 (by kernel_rfl) rfl #[.pointer (some ⟨xb, 0, none⟩), .int .i64 ((orb mk i : Nat) : Int), .int .i64 (i : Int)] (by rfl) rfl rfl (by (try simp only [List.map_toArray, List.map_cons, List.map_nil]); first | done | rfl) ?_
                with_reducible refine (IH.out (k - 1) (by have := HPC.out; omega) (orb mk i) i _ (orb_lt hm HI.out) (Nat.le_of_lt HI.out) (by have h1 := pc_clr (cmp l.length mk) i (by rw [cmp_bit HI.out, HB.out, Bool.not_false]) l.length HI.out; rw [cmp_or HI.out HB.out]; omega) S5.out.st.below S5.out.x M5.out).mono ?_
                rintro e w6 ⟨rfl, hb9, hk9, hm9'⟩
                refine ⟨_, rfl, ?_⟩
                have S6 := Aside0.mk (S5.out.call hb9 hk9)
                have M6 := Aside0.mk hm9'
                clear hb9 hk9 hm9'
                refine hK.out _ _ ⟨(blk_cell S6.out.x 0).trans rfl, (blk_cell S6.out.x 1).trans rfl, (blk_cell S6.out.x 2).trans rfl, (blk_cell S6.out.x 3).trans rfl, (blk_cell S6.out.x 4).trans rfl, (S6.out.st.cell 0 rfl 0).trans rfl, (S6.out.st.cell 0 rfl 1).trans rfl, (S6.out.st.below.cell (World.block_lt_of_cell? w0 _ HX0.out)).trans HX0.out, (S6.out.st.below.cell (World.block_lt_of_cell? w0 _ HX1.out)).trans HX1.out⟩ (fun hHeld => ?_)
                clear hK K
                refine norm_ (a' := ?_) ?_ ?_
                rotate_left
                · show Act.put _ (some 94) _ = _
                  simp only [Act.put, List.setIfInBounds_toArray, List.set_cons_zero, List.set_cons_succ, i64_w, i32_w]
                  rfl
                refine xP 21 95 (xM 23 4194303) HT_ ?_
                refine xP 22 12 (xM 23 8388607) HT_ ?_
                refine done_ (done_of HT_.out (by kernel_rfl)) ?_
                go_wp2
                go_meet
                case rel =>
                  have hV : VV (lf h0 h1 h2) l (orb mk i) i = sh (lf h0 h1 h2) l (clr (cmp l.length mk) i) pi := by
                    unfold VV atS
                    rw [cmp_or HI.out HB.out, if_pos HI.out, ← HPI.out]
                  rw [hV]
                  exact ⟨rfl, S6, M6⟩
              case rest =>
                obtain ⟨rfl, SX, MX⟩ := hcut
                have HG1 : bestI (fun i => wrap64 (lf h0 h1 h2 pk (rd_T45 l i) + sh (lf h0 h1 h2) l (clr (cmp l.length mk) i) (rd_T45 l i))) (fun i => (cmp l.length mk).testBit i) (i + 1) = if bestI (fun i => wrap64 (lf h0 h1 h2 pk (rd_T45 l i) + sh (lf h0 h1 h2) l (clr (cmp l.length mk) i) (rd_T45 l i))) (fun i => (cmp l.length mk).testBit i) i < 0 ∨ wrap64 (lf h0 h1 h2 pk pi + sh (lf h0 h1 h2) l (clr (cmp l.length mk) i) pi) < bestI (fun i => wrap64 (lf h0 h1 h2 pk (rd_T45 l i) + sh (lf h0 h1 h2) l (clr (cmp l.length mk) i) (rd_T45 l i))) (fun i => (cmp l.length mk).testBit i) i then wrap64 (lf h0 h1 h2 pk pi + sh (lf h0 h1 h2) l (clr (cmp l.length mk) i) pi) else bestI (fun i => wrap64 (lf h0 h1 h2 pk (rd_T45 l i) + sh (lf h0 h1 h2) l (clr (cmp l.length mk) i) (rd_T45 l i))) (fun i => (cmp l.length mk).testBit i) i := by rw [bestI, if_pos (by rw [cmp_bit HI.out, HB.out]; rfl), ← HPI.out]
                generalize wrap64 (lf h0 h1 h2 pk pi + sh (lf h0 h1 h2) l (clr (cmp l.length mk) i) pi) = oo at HG1 ⊢
                generalize bestI (fun i => wrap64 (lf h0 h1 h2 pk (rd_T45 l i) + sh (lf h0 h1 h2) l (clr (cmp l.length mk) i) (rd_T45 l i))) (fun i => (cmp l.length mk).testBit i) i = bb at HG1 ⊢
                have HGX := Aside0.mk HG1
                clear HG1 SR MR
                by_cases q0 : bb < 0
                · have q0b : decide (bb < 0) = true := decide_eq_true q0
                  go_wp2
                  go_roundg (l.length - (i + 1))
                  case measure => have := GK.out; have := HI.out; omega
                  case rel => exact ⟨i + 1, by simp, by rw [HGX.out, if_pos (by omega)], ⟨HI.out⟩, ⟨Nat.le_refl _⟩, SX, MX⟩
                · have q0b : decide (bb < 0) = false := decide_eq_false q0
                  by_cases q1 : oo < bb
                  · have q1b : decide (oo < bb) = true := decide_eq_true q1
                    go_wp2
                    go_roundg (l.length - (i + 1))
                    case measure => have := GK.out; have := HI.out; omega
                    case rel => exact ⟨i + 1, by simp, by rw [HGX.out, if_pos (by omega)], ⟨HI.out⟩, ⟨Nat.le_refl _⟩, SX, MX⟩
                  · have q1b : decide (oo < bb) = false := decide_eq_false q1
                    go_wp2
                    go_roundg (l.length - (i + 1))
                    case measure => have := GK.out; have := HI.out; omega
                    case rel => exact ⟨i + 1, by simp, by rw [HGX.out, if_neg (by omega)], ⟨HI.out⟩, ⟨Nat.le_refl _⟩, SX, MX⟩
          · have hltb : decide (i < l.length) = false := decide_eq_false hlt
            have hltb2 : decide ((i : Int) < (l.length : Int)) = false := decide_eq_false (by omega)
            have hil : i = l.length := by have := GI.out; omega
            subst hil
            clear hlt
            have hV : bestI (fun i => wrap64 (lf h0 h1 h2 pk (rd_T45 l i) + sh (lf h0 h1 h2) l (clr (cmp l.length mk) i) (rd_T45 l i))) (fun i => (cmp l.length mk).testBit i) l.length = VV (lf h0 h1 h2) l mk la := by
              unfold VV
              rw [← HPK.out]
              exact (sh_step (lf h0 h1 h2) l (cmp_lt hm) HCZ.out pk).symm
            rw [hV]
            obtain ⟨v, hv0, hv1, _⟩ := MR.out.cell hm hla
            rw [← HIE.out] at hv0 hv1
            go_wp2
            go_ret
            have hs := MR.out.store (mk := mk) hla
            rw [← HIE.out] at hs
            exact ⟨rfl, (SR.out.memo ix _).st.below, (SR.out.memo ix _).st.kept, hs⟩
/- spec.BestPath as a function. -/
theorem picks_len {k : Nat} {h0 h1 h2 : Int} {l : List S45} (h : spec_l19Picks.f k h0 h1 h2 l = some 0) : l.length ≤ 9 := by
  unfold spec_l19Picks.f at h
  split at h
  · simp at h
  · split at h
    · simp at h
    · omega
def spec_BestPath.f (k : Nat) (h0 h1 h2 : Int) (l : List S45) : Option (List Int × Int × Int) := (spec_l19Picks.f k h0 h1 h2 l).bind fun t => if t = 0 then some (ordF (lf h0 h1 h2) l l.length (2 ^ l.length - 1) ⟨0, 0⟩, sh (lf h0 h1 h2) l (2 ^ l.length - 1) ⟨0, 0⟩, 0) else some ([], 0, t)
theorem spec_BestPath.mono : ∀ a0 a1 a2 a3 k, LeO (spec_BestPath.f k a0 a1 a2 a3) (spec_BestPath.f (k + 1) a0 a1 a2 a3) := fun _ _ _ _ _ => LeO.bind (spec_l19Picks.mono _ _ _ _ _) (fun _ => LeO.refl _)
/-- A memo whose entries are all -1. -/
theorem MemoOK.fresh {w0 W : World} {mb c n : Nat} {V : Nat → Nat → Int} {ms : List Int} (h : (Kd.int .i64).R 3 W w0.heap.size (fun k => k = mb) (.slice (some ⟨mb, 0, none⟩) ms.length c) ms) (hl : ms.length = (n + 1) * 2 ^ n) (hm : ∀ (k : Nat) (v : Int), ms[k]? = some v → v = -1) : MemoOK w0 W mb c n V :=
  ⟨ms, h, hl, fun mk la _ v hv h0 => by have := hm _ v hv; omega⟩
theorem vv_start (D : S45 → S45 → Int) (l : List S45) : VV D l 0 l.length = sh D l (2 ^ l.length - 1) ⟨0, 0⟩ := by
  unfold VV atS
  rw [cmp_none, if_neg (by omega)]
/- spec.BestPath by hand. -/
theorem nn_i64 {n : Nat} (hn : n ≤ 9) : wrap64 (wrap64 ((n : Int) + 1) * 2 ^ min (IntKind.u64.wrap (n : Int)).toNat 64) = (((n + 1) * 2 ^ n : Nat) : Int) := by
  have hc : min (IntKind.u64.wrap (n : Int)).toNat 64 = n := by rw [IntKind.wrap_u64]; omega
  have h1 : wrap64 ((n : Int) + 1) = ((n + 1 : Nat) : Int) := by unfold wrap64; omega
  have h2 : (2 : Int) ^ n = ((2 ^ n : Nat) : Int) := by simp
  have hb : (n + 1) * 2 ^ n ≤ 10 * 512 := Nat.mul_le_mul (by omega) (Nat.pow_le_pow_right (n := 2) (by decide) hn)
  rw [hc, h1, h2, ← Int.natCast_mul]
  generalize (n + 1) * 2 ^ n = q at hb ⊢
  unfold wrap64
  omega
theorem Sx.memo {w0 : World} {P : Nat → Prop} {u : Value} {out : List Int} {L : List (Nat × Obj)} {W : World} {b : Nat} (h : Sx w0 b P u out L W) (j : Nat) (v : Value) : Sx w0 b P u out L (W.setCell ⟨b, j, none⟩ v) :=
  h.call (below_set h.s.below h.ge) (Kept.setCell (S := fun k => k = b) (p := ⟨b, j, none⟩) (Kept.refl _ _) (.inl rfl) v)
theorem lit_sy {Pg : Program} {ops : Array Oper} {Qx : Exit → Act → World → Prop} {rest : List Oper} {o : Oper} {a : Act} {w0 : World} {P : Nat → Prop} {u : Value} {out : List Int} {L : List (Nat × Obj)} {W : World} (H : Sy w0 P u out L W) (N : Tmp) (hd : o.dst = some N)
    (h : ∀ v1 P1 w1, Sy w0 P1 v1 [] L w1 → wpList Pg ops Qx rest (a.put o.dst v1) w1) (hgd : o.guard = none := by rfl)
    (hr : (execOp a.eval o).run Pg W = .ok (.value (.slice (some ⟨W.heap.size, 0, none⟩) 0 0)) (W.alloc (.cells #[] 3 (0, 0))) := by first | (go_simp; done) | (go_simp; rfl)) : wpList Pg ops Qx (o :: rest) a W :=
  Kd.R_lit (Kd.int .i64) (w0 := w0) w0.heap.size 3 hgd hd (xs := ([] : List Int)) (inner := []) (ok := fun k => W.heap.size ≤ k) (okp := fun k => W.heap.size ≤ k) hr (Reps.none _ _) (fun _ h => h) (Nat.le_refl _) H.below H.below.size (by simp) (fun v1 w1 hr1 hb hg _ => h v1 _ w1 (H.newrow hr1 hb hg))
theorem Sx.newrow {w0 : World} {P : Nat → Prop} {u : Value} {out : List Int} {L : List (Nat × Obj)} {W W1 : World} {b : Nat} (h : Sx w0 b P u out L W) {v : Value} {r : List Int} (hr : (Kd.int .i64).R 3 W1 w0.heap.size (fun k => W.heap.size ≤ k) v r) (hb : Below w0.heap.size w0 W1) (hg : W.grownBy W1 none) : Sx w0 b (fun k => W.heap.size ≤ k ∧ k < W1.heap.size) v r L W1 :=
  ⟨h.s.newrow hr hb hg, h.nb, fun hp => by have := h.lt; omega, h.ge, Nat.lt_of_lt_of_le h.lt hg.size⟩
theorem Sx.farM {w0 : World} {P : Nat → Prop} {u : Value} {out : List Int} {L : List (Nat × Obj)} {W : World} {b : Nat} (h : Sx w0 b P u out L W) {c n : Nat} {V : Nat → Nat → Int} (hM : MemoOK w0 W b c n V) {i : Nat} {g : Nat} {o : Obj} (hi : L[i]? = some (g, o)) (j : Nat) (v : Value) : MemoOK w0 (W.setCell ⟨g, j, none⟩ v) b c n V :=
  hM.keep (Below.heap_setCell W ⟨g, j, none⟩ v b (fun e => h.nb _ (List.mem_of_getElem? hi) e.symm))
theorem Sx.grownM {w0 : World} {P : Nat → Prop} {u : Value} {out : List Int} {L : List (Nat × Obj)} {W W1 : World} {b : Nat} (h : Sx w0 b P u out L W) {c n : Nat} {V : Nat → Nat → Int} (hM : MemoOK w0 W b c n V) (hg : W.grownBy W1 u.ownBlock) : MemoOK w0 W1 b c n V := hM.keep (hg.block b h.lt (fun e => h.np (h.s.row.1 _ e.symm)))
theorem lit_sx {Pg : Program} {ops : Array Oper} {Qx : Exit → Act → World → Prop} {rest : List Oper} {o : Oper} {a : Act} {w0 : World} {P : Nat → Prop} {u : Value} {out : List Int} {L : List (Nat × Obj)} {W : World} {b : Nat} (H : Sx w0 b P u out L W) (N : Tmp) (hd : o.dst = some N)
    (h : ∀ v1 P1 w1, Sx w0 b P1 v1 [] L w1 → (∀ c n V, MemoOK w0 W b c n V → MemoOK w0 w1 b c n V) → wpList Pg ops Qx rest (a.put o.dst v1) w1) (hgd : o.guard = none := by rfl)
    (hr : (execOp a.eval o).run Pg W = .ok (.value (.slice (some ⟨W.heap.size, 0, none⟩) 0 0)) (W.alloc (.cells #[] 3 (0, 0))) := by first | (go_simp; done) | (go_simp; rfl)) : wpList Pg ops Qx (o :: rest) a W :=
  Kd.R_lit (Kd.int .i64) (w0 := w0) w0.heap.size 3 hgd hd (xs := ([] : List Int)) (inner := []) (ok := fun k => W.heap.size ≤ k) (okp := fun k => W.heap.size ≤ k) hr (Reps.none _ _) (fun _ h => h) (Nat.le_refl _) H.s.below H.s.below.size (by simp) (fun v1 w1 hr1 hb hg _ => h v1 _ w1 (H.newrow hr1 hb hg) (fun c n V hM => hM.keep (hg.block b H.lt (fun e => by cases e))))
theorem box_sxm {Pg : Program} {ops : Array Oper} {Qx : Exit → Act → World → Prop} {rest : List Oper} {o : Oper} {a : Act} {w0 : World} {P : Nat → Prop} {u : Value} {out : List Int} {L : List (Nat × Obj)} {W : World} {b : Nat} (H : Sx w0 b P u out L W) (N : Tmp) (cs : Array Value) (t : TypeId) (hd : o.dst = some N) (h : ∀ g w1, Sx w0 b P u out ((g, .cells cs t (0, 0)) :: L) w1 → (∀ c n V, MemoOK w0 W b c n V → MemoOK w0 w1 b c n V) → wpList Pg ops Qx rest (a.put o.dst (.pointer (some ⟨g, 0, none⟩))) w1)
    (hgd : o.guard = none := by rfl) (hr : (execOp a.eval o).run Pg W = .ok (.value (.pointer (some ⟨W.heap.size, 0, none⟩))) (W.alloc (.cells cs t (0, 0))) := by first | (go_simp; done) | (go_simp; rfl)) : wpList Pg ops Qx (o :: rest) a W :=
  box_event hgd hd hr (fun g hg w1 hn hb => h g w1 (H.box hg hn hb) (fun c n V hm => hm.go hb))
theorem pc_full (n : Nat) : pc n (2 ^ n - 1) = n := by
  have : ∀ j, j ≤ n → pc j (2 ^ n - 1) = j := by
    intro j
    induction j with
    | zero => intro _; rfl
    | succ j ih =>
      intro hj
      unfold pc
      rw [ih (by omega), Nat.testBit_two_pow_sub_one]
      simp [show j < n by omega]
  exact this n (Nat.le_refl _)
theorem pc_none : ∀ n, pc n 0 = 0
  | 0 => rfl
  | n + 1 => by unfold pc; rw [pc_none n, Nat.zero_testBit]; rfl
theorem Sx.blk {w0 : World} {P : Nat → Prop} {u : Value} {out : List Int} {L : List (Nat × Obj)} {W : World} {b : Nat} (h : Sx w0 b P u out L W) (i : Nat) {g : Nat} {o : Obj} (hi : L[i]? = some (g, o)) : W.heap[g]? = some o ∧ g ≠ b := ⟨h.s.get i hi, h.nb _ (List.mem_of_getElem? hi)⟩
theorem least_zero (h0 h1 h2 : Int) (A : Option Addr) (c : Nat) (l : List S45) (hl9 : l.length ≤ 9) (w0 : World) (hC : Kd.C k45 w0 A l.length l) (hc : l.length ≤ c) (mb xb c2 : Nat) (hmb : w0.heap.size ≤ mb) (hxm : xb ≠ mb) (NN : Nat) (hNN : NN = (l.length + 1) * 2 ^ l.length) (w : World) (hB : Below w0.heap.size w0 w) (hx : w.heap[xb]? = some (.cells #[.int .i64 h0, .int .i64 h1, .int .i64 h2, .slice A l.length c, .slice (some ⟨mb, 0, none⟩) NN c2] 51 (0, 0))) (hM : MemoOK w0 w mb c2 l.length (VV (lf h0 h1 h2) l)) :
    Calls Try.prog 20 #[.pointer (some ⟨xb, 0, none⟩), .int .i64 0, .int .i64 (l.length : Int)] w (fun e w' => e = .returned (.int .i64 (VV (lf h0 h1 h2) l 0 l.length)) ∧ Below w0.heap.size w0 w' ∧ Kept w w' (fun g => g = mb) ∧ MemoOK w0 w' mb c2 l.length (VV (lf h0 h1 h2) l)) :=
  least_calls h0 h1 h2 A c l hl9 w0 hC hc mb xb c2 hmb hxm NN (2 ^ l.length - 1) hNN rfl l.length 0 l.length w (Nat.two_pow_pos _) (Nat.le_refl _) (pc_le _ _) hB hx hM
def sb.T5 : Bool × List (List Nat × List Nat) := (true, [([], []), ([], []), ([], []), ([2], [2]), ([], []), ([4], [4]), ([3, 5], [3, 5]), ([6, 6], [6]), ([0, 1, 7], [0, 1, 7]), ([8], [8]), ([9, 0, 1, 2, 3, 4, 5, 6, 7, 8, 9], [9])])
def sb.B5 : List Nat := [0, 0, 0, 4, 0, 16, 60, 124, 255, 511, 1023]
theorem sb.tab5 : rtab .any (opsOf Try.f6 5) = sb.T5 := by kernel_rfl
theorem sb.bits5 : waitsOk sb.T5.2 sb.B5 = true := by kernel_rfl
def sb.T18 : Bool × List (List Nat × List Nat) := (true, [([], []), ([], []), ([1], [1]), ([0, 2], [0, 2]), ([3], [3]), ([4], [4]), ([5], [5]), ([6], [6]), ([6], [6]), ([6], [6]), ([6], [6]), ([9, 10, 6], [6, 9, 10]), ([11, 6], [6, 11]), ([7, 8, 12, 6, 6], [6, 7, 8, 12]), ([6], [6]), ([6], [6]), ([6], [6]), ([16, 6], [6, 16]), ([17, 6], [6, 17]), ([15, 18, 6], [6, 15, 18]), ([6], [6]), ([14, 19, 20, 13, 6], [6, 14, 19, 20]), ([13, 21, 6], [6, 13, 21]), ([6], [6]), ([6], [6]), ([6], [6]), ([23, 24, 25, 21, 6], [6, 23, 24, 25]), ([22, 26, 6], [6, 22, 26]), ([6, 27], [6, 27])])
def sb.B18 : List Nat := [0, 0, 2, 7, 15, 31, 63, 127, 127, 127, 127, 1663, 3711, 8191, 127, 127, 127, 65663, 196735, 491647, 127, 2097151, 4194303, 127, 127, 127, 62914559, 134217727, 268435455]
theorem sb.tab18 : rtab .any (opsOf Try.f6 18) = sb.T18 := by kernel_rfl
theorem sb.bits18 : waitsOk sb.T18.2 sb.B18 = true := by kernel_rfl
set_option maxHeartbeats 64000000 in
set_option maxRecDepth 100000 in
theorem spec_BestPath.calls (k : Nat) (h0 h1 h2 : Int) (A1 : Option Addr) (c1 : Nat) (l1 : List S45) (r1 : List Int) (r2 r3 : Int) (w : World) (hr1 : Kd.C k45 w A1 l1.length l1) (hc1 : l1.length ≤ c1) (h : spec_BestPath.f k h0 h1 h2 l1 = some (r1, r2, r3)) :
    Calls Try.prog 6 #[.agg #[.int .i64 h0, .int .i64 h1, .int .i64 h2], .slice A1 l1.length c1] w fun e w' => ∃ v : Value, e = .returned (.tuple #[v, .int .i64 r2, .int .i64 r3]) ∧ (Kd.int .i64).R 3 w' w.heap.size (fun _ => True) v r1 ∧ Below w.heap.size w w' := by
  have hu29 := Try.underlying29
  have hu45 := Try.underlying45
  have hu51 := Try.underlying51
  have S0 := Aside0.mk (Sy.start w)
  unfold spec_BestPath.f at h
  obtain ⟨t, ht, h⟩ := Option.bind_eq_some_iff.mp h
  have HR := Aside0.mk hr1
  have HT := Aside0.mk ht
  by_cases t0 : t = 0
  rotate_left
  · rw [if_neg t0] at h
    have t0b : (t != 0) = true := bne_iff_ne.mpr t0
    simp only [Option.some.injEq, Prod.mk.injEq] at h
    obtain ⟨rfl, rfl, rfl⟩ := h
    clear hr1 ht t0
    go_enter Try.func6, Try.ntmps6
    go_wp2_with (first | (refine box_sy S0.out 2 (H3 h0 h1 h2) 29 rfl ?_; intro hb w1 h_; have S1 := Aside0.mk h_; clear h_; have zh0 : w1.cell? ⟨hb, 0, none⟩ = some (.int .i64 h0) := (S1.out.cell 0 rfl 0).trans rfl; have zh1 : w1.cell? ⟨hb, 1, none⟩ = some (.int .i64 h1) := (S1.out.cell 0 rfl 1).trans rfl; have zh2 : w1.cell? ⟨hb, 2, none⟩ = some (.int .i64 h2) := (S1.out.cell 0 rfl 2).trans rfl) | (go_at_call 18; (with_reducible refine (spec_l19Picks.calls k h0 h1 h2 A1 c1 l1 t _ (Kd.C_below HR.out S1.out.below) hc1 HT.out).mono ?_); rintro e w2 ⟨rfl, hb2⟩; have S2 := Aside0.mk (S1.out.go hb2); clear hb2) | (refine lit_sy S2.out 21 rfl ?_; intro v3 P3 w3 h_; have S3 := Aside0.mk h_; clear h_))
    go_ret3
    exact ⟨_, rfl, Kd.R_mono S3.out.row (fun _ _ => trivial), S3.out.below⟩
  subst t0
  rw [if_pos rfl] at h
  simp only [Option.some.injEq, Prod.mk.injEq] at h
  obtain ⟨rfl, rfl, rfl⟩ := h
  have hl9 := picks_len ht
  clear hr1 ht
  obtain ⟨NN, hNN⟩ : ∃ NN, NN = (l1.length + 1) * 2 ^ l1.length := ⟨_, rfl⟩
  have HNN := Aside0.mk hNN
  have HNB := Aside0.mk (show NN ≤ 5120 by rw [hNN]; exact Nat.le_trans (Nat.mul_le_mul (show l1.length + 1 ≤ 10 by omega) (show 2 ^ l1.length ≤ 512 from Nat.pow_le_pow_right (n := 2) (by decide) hl9)) (by decide))
  have HNP := Aside0.mk (show 0 < NN by rw [hNN]; exact Nat.mul_pos (by omega) (Nat.two_pow_pos _))
  clear hNN
  go_enter Try.func6, Try.ntmps6
  go_upto_region 5 with (first | (refine box_sy S0.out 2 (H3 h0 h1 h2) 29 rfl ?_; intro hb w1 h_; have S1 := Aside0.mk h_; clear h_; have zh0 : w1.cell? ⟨hb, 0, none⟩ = some (.int .i64 h0) := (S1.out.cell 0 rfl 0).trans rfl; have zh1 : w1.cell? ⟨hb, 1, none⟩ = some (.int .i64 h1) := (S1.out.cell 0 rfl 1).trans rfl; have zh2 : w1.cell? ⟨hb, 2, none⟩ = some (.int .i64 h2) := (S1.out.cell 0 rfl 2).trans rfl) | (go_at_call 18; (with_reducible refine (spec_l19Picks.calls k h0 h1 h2 A1 c1 l1 0 _ (Kd.C_below HR.out S1.out.below) hc1 HT.out).mono ?_); rintro e w2 ⟨rfl, hb2⟩; have S2 := Aside0.mk (S1.out.go hb2); clear hb2))
  try go_wp2
  have HD := Aside0.mk S2.out.drew
  clear S0 S1 S2 zh0 zh1 zh2
  refine start_ (n := 11) (S := fun w' => w'.cell? ⟨hb, 0, none⟩ = some (.int .i64 h0) ∧ w'.cell? ⟨hb, 1, none⟩ = some (.int .i64 h1) ∧ w'.cell? ⟨hb, 2, none⟩ = some (.int .i64 h2)) (ds := []) (xM 11 0) (by kernel_rfl) rfl rfl ⟨(HD.out.cell 0 rfl 0).trans rfl, (HD.out.cell 0 rfl 1).trans rfl, (HD.out.cell 0 rfl 2).trans rfl⟩ (fun hHeld => ?_)
  refine with_tabW sb.tab5 sb.bits5 (fun HT_ HW_ => ?_)
  generalize w2.drew = wd_ at HD hHeld ⊢
  refine xQ 0 25 (xM 11 1) HT_ HW_ hHeld ?_
  refine xP 1 26 (xM 11 3) HT_ ?_
  refine xP 2 27 (xM 11 7) HT_ ?_
  refine xP 3 28 (xM 11 15) HT_ ?_
  refine xP 4 29 (xM 11 31) HT_ ?_
  refine xP 5 30 (xM 11 63) HT_ ?_
  refine xP 6 31 (xM 11 127) HT_ ?_
  rw [nn_i64 hl9, ← HNN.out]
  refine one_ (i := 7) (N := some 32) (xM 11 255) rfl rfl (one_of HT_.out (by kernel_rfl)) (by decide) (fun K hK => ?_)
  refine Kd.R_make_step (Kd.int .i64) (w0 := w) w.heap.size 3 (by rfl) rfl 26 (.tmp 31) (.tmp 31) rfl (NN : Int) rfl rfl Try.underlying26 (.int .i64 0) 8 (by kernel_rfl) rfl (by decide) (by decide) 0 (ok := fun k => k = wd_.heap.size) (okp := fun _ => False) rfl (fun _ h => h.elim) rfl (by omega) (by have := HNB.out; omega) HD.out.below HD.out.below.size ?_
  intro v3 w3 hr3 hb3 hg3 hat3
  obtain ⟨mb, cap, rfl, hge, hlt3, hcl⟩ := Kd.R_form hr3 (by rw [List.length_replicate]; have := HNP.out; omega)
  have hmb : mb = wd_.heap.size := hr3.1 mb rfl
  rw [← hmb] at hr3
  have S3 := Aside0.mk (show Sx w mb (fun _ => False) (.slice none 0 0) [] [(hb, .cells (H3 h0 h1 h2) 29 (0, 0))] w3 from ⟨HD.out.go ((Below.refl wd_.heap.size wd_).grown hg3 (Nat.le_refl _) (fun k hk => by cases hk)), fun x hx => by have := blk_lt (HD.out.blks x hx).1; omega, fun h => h, hge, hlt3⟩)
  have R3 := Aside0.mk hr3
  have GMB := Aside0.mk hge
  clear hmb hb3 hg3 hat3 hlt3 hcl hr3 hge
  refine hK.out _ _ ⟨(S3.out.s.cell 0 rfl 0).trans rfl, (S3.out.s.cell 0 rfl 1).trans rfl, (S3.out.s.cell 0 rfl 2).trans rfl⟩ (fun hHeld => ?_)
  clear hK K
  refine norm_ (a' := ?_) ?_ ?_
  rotate_left
  · show Act.put _ (some 32) _ = _
    simp only [Act.put, List.setIfInBounds_toArray, List.set_cons_zero, List.set_cons_succ, i64_w, i32_w]
    rfl
  refine xP 8 33 (xM 11 511) HT_ ?_
  refine one_ (i := 9) (N := some 34) (xM 11 1023) rfl rfl (one_of HT_.out (by kernel_rfl)) (by decide) (fun K hK => ?_)
  refine box_step (cs := #[.int .i64 h0, .int .i64 h1, .int .i64 h2, .slice A1 l1.length c1, .slice (some ⟨mb, 0, none⟩) (List.replicate (NN : Int).toNat (0 : Int)).length cap]) (t := 51) (by rfl) (N := 34) rfl (by first | (go_simp; done) | (go_simp; rfl)) ?_
  intro xb hg w4 hn hb
  have S4 := Aside0.mk (S3.out.box hg hn hb)
  have R4 := Aside0.mk (Kd.R_below R3.out hb)
  clear hg hn hb
  refine hK.out _ _ ⟨(S4.out.s.cell 1 rfl 0).trans rfl, (S4.out.s.cell 1 rfl 1).trans rfl, (S4.out.s.cell 1 rfl 2).trans rfl⟩ (fun hHeld => ?_)
  clear hK K
  refine norm_ (a' := ?_) ?_ ?_
  rotate_left
  · show Act.put _ (some 34) _ = _
    simp only [Act.put, List.setIfInBounds_toArray, List.set_cons_zero, List.set_cons_succ, i64_w, i32_w]
    rfl
  refine xP 10 9 (xM 11 2047) HT_ ?_
  refine done_ (done_of HT_.out (by kernel_rfl)) ?_
  clear HT_ HW_ hHeld
  go_wp2
  simp only [List.length_replicate, Int.toNat_natCast] at S4 R4
  have S5 : Aside0 (Sx w mb (fun _ => False) (.slice none 0 0) [] [(xb, .cells #[.int .i64 h0, .int .i64 h1, .int .i64 h2, .slice A1 l1.length c1, .slice (some ⟨mb, 0, none⟩) NN cap] 51 (0, 0)), (hb, .cells (H3 h0 h1 h2) 29 (0, 0))] w4) := S4
  have R5 : Aside0 ((Kd.int .i64).R 3 w4 w.heap.size (fun k => k = mb) (.slice (some ⟨mb, 0, none⟩) NN cap) (List.replicate NN 0)) := R4
  clear S3 S4 R3 R4 HD
  go_loopg [10] NN (fun kq v10 wr => ∃ (i : Nat) (ms : List Int), v10 = .int .i64 (i : Int) ∧ Aside0 (i ≤ NN) ∧ Aside0 (NN - i ≤ kq) ∧ Aside0 (ms.length = NN) ∧ Aside0 (∀ (j : Nat) (v : Int), j < i → ms[j]? = some v → v = -1) ∧ Aside0 ((Kd.int .i64).R 3 wr w.heap.size (fun k => k = mb) (.slice (some ⟨mb, 0, none⟩) NN cap) ms) ∧ Aside0 (Sx w mb (fun _ => False) (.slice none 0 0) [] [(xb, .cells #[.int .i64 h0, .int .i64 h1, .int .i64 h2, .slice A1 l1.length c1, .slice (some ⟨mb, 0, none⟩) NN cap] 51 (0, 0)), (hb, .cells (H3 h0 h1 h2) 29 (0, 0))] wr))
  case atStart => exact ⟨0, List.replicate NN 0, rfl, ⟨Nat.zero_le _⟩, ⟨Nat.sub_le _ _⟩, ⟨List.length_replicate⟩, ⟨fun j v hj => absurd hj (Nat.not_lt_zero _)⟩, R5, S5⟩
  case round =>
    obtain ⟨i, ms, rfl, GI, GK, GL, GM, MR, SR⟩ := hrel
    clear S5 R5
    have zx4 : wr.cell? ⟨xb, 4, none⟩ = some (.slice (some ⟨mb, 0, none⟩) NN cap) := (SR.out.s.cell 0 rfl 4).trans rfl
    by_cases hlt : i < NN
    · have hltb : decide (i < NN) = true := decide_eq_true hlt
      have HI := Aside0.mk hlt
      clear hlt
      have hp0 : (0 ≤ (i : Int)) = True := eq_true (by omega)
      have hp1 : ((i : Int) < (NN : Int)) = True := eq_true (by have := HI.out; omega)
      have hi5 : i < 5120 := by have := HNB.out; have := HI.out; omega
      have hc := Kd.R_celln 0 MR.out (i : Int) (by omega) (by have := HI.out; omega)
      rw [Int.toNat_natCast] at hc
      obtain ⟨hc0, hc1⟩ := hc
      have HP := Aside0.mk (Kd.R_putg MR.out (i : Int) (-1)).1
      rw [Int.toNat_natCast] at HP
      go_wp2
      go_roundg (NN - (i + 1))
      case measure => have := GK.out; have := HI.out; omega
      case rel => exact ⟨i + 1, ms.set i (-1), by simp, ⟨HI.out⟩, ⟨Nat.le_refl _⟩, ⟨by rw [List.length_set]; exact GL.out⟩, ⟨fun j v hj hv => by
        rw [List.getElem?_set] at hv
        split at hv
        · split at hv
          · injection hv with hv; exact hv.symm
          · cases hv
        · exact GM.out j v (by omega) hv⟩, HP, ⟨SR.out.memo i _⟩⟩
    · skip
      have hltb : decide (i < NN) = false := decide_eq_false hlt
      have MM : Aside0 (MemoOK w wr mb cap l1.length (VV (lf h0 h1 h2) l1)) := ⟨MemoOK.fresh (n := l1.length) (c := cap) (ms := ms) (by rw [GL.out]; exact MR.out) (by rw [GL.out]; exact HNN.out) (fun k v hv => GM.out k v (by have := (List.getElem?_eq_some_iff.1 hv).1; have := GL.out; omega) hv)⟩
      clear hlt GM MR GK
      go_wp2_with (first | (refine lit_sx SR.out 50 rfl ?_; intro v11 P1 w5 h_ m_; have S5 := Aside0.mk h_; have M5 := Aside0.mk (m_ _ _ _ MM.out); clear h_ m_) | (refine box_sxm S5.out 14 (H2 0 0) 45 rfl ?_; intro ab w6 h_ m_; have S6 := Aside0.mk h_; have M6 := Aside0.mk (m_ _ _ _ M5.out); clear h_ m_; have za0 : w6.cell? ⟨ab, 0, none⟩ = some (.int .i64 0) := (S6.out.s.cell 0 rfl 0).trans rfl; have za1 : w6.cell? ⟨ab, 1, none⟩ = some (.int .i64 0) := (S6.out.s.cell 0 rfl 1).trans rfl; have fa0 := S6.out.s.froz 0 rfl 0; have fa1 := S6.out.s.froz 0 rfl 1))
      have S7 := Aside0.mk ((S6.out.put 0 0 (.int .i64 0) rfl rfl).put 0 1 (.int .i64 0) rfl rfl)
      have M7 := Aside0.mk ((S6.out.put 0 0 (.int .i64 0) rfl rfl).farM (S6.out.farM M6.out (i := 0) rfl 0 (.int .i64 0)) (i := 0) rfl 1 (.int .i64 0))
      generalize (w6.setCell ⟨ab, 0, none⟩ (.int .i64 0)).setCell ⟨ab, 1, none⟩ (.int .i64 0) = w7 at S7 M7 ⊢
      replace S7 : Aside0 (Sx w mb P1 v11 [] [(ab, .cells (H2 0 0) 45 (0, 0)), (xb, .cells #[.int .i64 h0, .int .i64 h1, .int .i64 h2, .slice A1 l1.length c1, .slice (some ⟨mb, 0, none⟩) NN cap] 51 (0, 0)), (hb, .cells (H3 h0 h1 h2) 29 (0, 0))] w7) := S7
      clear SR MM S5 M5 S6 M6 za0 za1 fa0 fa1 zx4 hltb GI GL
      go_loopg [11, 12, 13] l1.length (fun kq v11 v12 v13 wr => ∃ (mk la : Nat) (s : S45) (out : List Int) (P : Nat → Prop) (f : Nat), v12 = .int .i64 (mk : Int) ∧ v13 = .int .i64 (la : Int) ∧ Aside0 (mk < 2 ^ l1.length) ∧ Aside0 (la ≤ l1.length) ∧ Aside0 (atS l1 la = s) ∧ Aside0 (out ++ ordF (lf h0 h1 h2) l1 f (cmp l1.length mk) s = ordF (lf h0 h1 h2) l1 l1.length (2 ^ l1.length - 1) ⟨0, 0⟩) ∧ Aside0 (pc l1.length (cmp l1.length mk) ≤ f) ∧ Aside0 (pc l1.length (cmp l1.length mk) ≤ kq) ∧ Aside0 (out.length + pc l1.length (cmp l1.length mk) = l1.length) ∧ Aside0 (Sx w mb P v11 out [(ab, .cells (H2 s.f0 s.f1) 45 (0, 0)), (xb, .cells #[.int .i64 h0, .int .i64 h1, .int .i64 h2, .slice A1 l1.length c1, .slice (some ⟨mb, 0, none⟩) NN cap] 51 (0, 0)), (hb, .cells (H3 h0 h1 h2) 29 (0, 0))] wr) ∧ Aside0 (MemoOK w wr mb cap l1.length (VV (lf h0 h1 h2) l1)))
      case atStart => exact ⟨0, l1.length, ⟨0, 0⟩, [], P1, l1.length, rfl, rfl, ⟨Nat.two_pow_pos _⟩, ⟨Nat.le_refl _⟩, ⟨by unfold atS; rw [if_neg (by omega)]⟩, ⟨by rw [cmp_none]; rfl⟩, ⟨pc_le _ _⟩, ⟨pc_le _ _⟩, ⟨by rw [cmp_none, pc_full]; simp⟩, S7, M7⟩
      case round =>
        obtain ⟨mk, la, s, out, P, f, rfl, rfl, HM, HLA, HAT, HO, HF, HK, HL, SR, MR⟩ := hrel
        clear S7 M7
        obtain ⟨Ao, co, rfl⟩ := Kd.R_slice SR.out.s.row
        have HM5 := Aside0.mk (show mk < 512 from Nat.lt_of_lt_of_le HM.out (Nat.pow_le_pow_right (n := 2) (by decide) hl9))
        have HM6 := Aside0.mk (show mk < 2 ^ 62 from Nat.lt_of_lt_of_le HM5.out (by decide))
        by_cases hm0 : cmp l1.length mk = 0
        · have hO := HO.out
          rw [hm0, ordF_zero, List.append_nil] at hO
          have hol : decide (out.length < l1.length) = false := decide_eq_false (by have h1 := HL.out; rw [hm0, pc_none] at h1; omega)
          have HOO := Aside0.mk hO
          clear hO hm0
          go_wp2_with (first | (go_at_call 20; (with_reducible refine (least_zero h0 h1 h2 A1 c1 l1 hl9 w HR.out hc1 mb xb cap GMB.out (SR.out.blk 1 rfl).2 NN HNN.out _ SR.out.s.below (SR.out.blk 1 rfl).1 MR.out).mono ?_); rintro e w9 ⟨rfl, hb9, hk9, hm9⟩; have S9 := Aside0.mk (SR.out.call hb9 hk9); clear hb9 hk9 hm9))
          go_ret3
          rw [← HOO.out, ← vv_start]
          exact ⟨_, rfl, Kd.R_mono S9.out.s.row (fun _ _ => trivial), S9.out.s.below⟩
        have hol : decide (out.length < l1.length) = true := decide_eq_true (by
          have h1 := HL.out
          rcases Nat.eq_zero_or_pos (pc l1.length (cmp l1.length mk)) with h | h
          · exact absurd (pc_zero (cmp_lt HM.out) h) hm0
          · omega)
        have HM0 := Aside0.mk hm0
        have HEX := Aside0.mk (hit_ex (lf h0 h1 h2) l1 (cmp_lt HM.out) hm0 s)
        clear hm0
        go_wp2
        clear hol
        go_loopg [15, 11, 12, 13] l1.length (fun ki v15 v11 v12 v13 wr => ∃ i : Nat, v15 = .int .i64 (i : Int) ∧ v11 = .slice Ao out.length co ∧ v12 = .int .i64 (mk : Int) ∧ v13 = .int .i64 (la : Int) ∧ Aside0 (i ≤ l1.length) ∧ Aside0 (l1.length - i ≤ ki) ∧ Aside0 (∀ j, j < i → hitB (lf h0 h1 h2) l1 (cmp l1.length mk) s j = false) ∧ Aside0 (Sx w mb P v11 out [(ab, .cells (H2 s.f0 s.f1) 45 (0, 0)), (xb, .cells #[.int .i64 h0, .int .i64 h1, .int .i64 h2, .slice A1 l1.length c1, .slice (some ⟨mb, 0, none⟩) NN cap] 51 (0, 0)), (hb, .cells (H3 h0 h1 h2) 29 (0, 0))] wr) ∧ Aside0 (MemoOK w wr mb cap l1.length (VV (lf h0 h1 h2) l1)))
        case atStart => exact ⟨0, rfl, rfl, rfl, rfl, ⟨Nat.zero_le _⟩, ⟨Nat.sub_le _ _⟩, ⟨fun j hj => absurd hj (Nat.not_lt_zero _)⟩, SR, MR⟩
        case round =>
          obtain ⟨i, rfl, rfl, rfl, rfl, GI, GK, GH, SI_, MI⟩ := hrel
          clear SR MR
          by_cases hlt : i < l1.length
          rotate_left
          · obtain ⟨i0, q1, q2⟩ := HEX.out
            exact absurd q2 (by rw [GH.out i0 (by omega)]; decide)
          have hltb : decide (i < l1.length) = true := decide_eq_true hlt
          have hltb2 : decide ((i : Int) < (l1.length : Int)) = true := decide_eq_true (by omega)
          obtain ⟨ad, e, hx0, hx1⟩ := at_T45 HR.out (i : Int) (by omega) (by omega)
          cases e
          rw [Int.toNat_natCast] at hx0 hx1
          have hp0 : (0 ≤ (i : Int)) = True := eq_true (by omega)
          have hp1 : ((i : Int) < (l1.length : Int)) = True := eq_true (by omega)
          have HI := Aside0.mk hlt
          obtain ⟨pi, hpi⟩ : ∃ pi, pi = rd_T45 l1 (i : Int) := ⟨_, rfl⟩
          rw [← hpi] at hx0 hx1
          have HPI := Aside0.mk hpi
          have HX0 := Aside0.mk hx0
          have HX1 := Aside0.mk hx1
          have hi9 : i < 9 := by omega
          clear hpi hlt hx0 hx1
          cases hbt : mk.testBit i with
          | true =>
            have hb' : (bits .and .i64 ((mk : Int) / 2 ^ i) 1 == 1) = true := by rw [i64_bit mk i HM6.out, hbt]
            have HBT := Aside0.mk hbt
            clear hbt
            go_upto_region 18 with (fail)
            try go_wp2
            have HD := Aside0.mk SI_.out.drew
            have MD : Aside0 (MemoOK w wr.drew mb cap l1.length (VV (lf h0 h1 h2) l1)) := ⟨MI.out.keep rfl⟩
            clear SI_ MI
            refine start_ (n := 29) (S := fun w' => w'.cell? ⟨hb, 0, none⟩ = some (.int .i64 h0) ∧ w'.cell? ⟨hb, 1, none⟩ = some (.int .i64 h1) ∧ w'.cell? ⟨hb, 2, none⟩ = some (.int .i64 h2) ∧ w'.cell? ⟨ab, 0, none⟩ = some (.int .i64 s.f0) ∧ w'.cell? ⟨ab, 1, none⟩ = some (.int .i64 s.f1) ∧ w'.cell? (ad.add (i * 2)) = some (.int .i64 pi.f0) ∧ w'.cell? ⟨(ad.add (i * 2)).block, (ad.add (i * 2)).off + 1, none⟩ = some (.int .i64 pi.f1)) (ds := []) (xM 29 0) (by kernel_rfl) rfl rfl ⟨(HD.out.s.cell 2 rfl 0).trans rfl, (HD.out.s.cell 2 rfl 1).trans rfl, (HD.out.s.cell 2 rfl 2).trans rfl, (HD.out.s.cell 0 rfl 0).trans rfl, (HD.out.s.cell 0 rfl 1).trans rfl, (HD.out.s.below.cell (World.block_lt_of_cell? w _ HX0.out)).trans HX0.out, (HD.out.s.below.cell (World.block_lt_of_cell? w _ HX1.out)).trans HX1.out⟩ (fun hHeld => ?_)
            refine with_tabW sb.tab18 sb.bits18 (fun HT_ HW_ => ?_)
            generalize wr.drew = wd_ at HD MD hHeld ⊢
            refine xP 0 62 (xM 29 1) HT_ ?_
            refine xP 1 63 (xM 29 3) HT_ ?_
            refine xP 2 64 (xM 29 7) HT_ ?_
            refine xP 3 65 (xM 29 15) HT_ ?_
            rw [u64_cv hi9]
            refine xP 4 66 (xM 29 31) HT_ ?_
            refine xP 5 67 (xM 29 63) HT_ ?_
            try rw [hb']
            refine xP 6 68 (xM 29 127) HT_ ?_
            refine xU 7 69 (xM 29 255) HT_ ?_
            refine xU 8 70 (xM 29 511) HT_ ?_
            refine xU 9 71 (xM 29 1023) HT_ ?_
            refine xU 10 72 (xM 29 2047) HT_ ?_
            refine xU 11 73 (xM 29 4095) HT_ ?_
            refine xU 12 74 (xM 29 8191) HT_ ?_
            refine xU 13 75 (xM 29 16383) HT_ ?_
            refine xU 14 76 (xM 29 32767) HT_ ?_
            refine xU 15 77 (xM 29 65535) HT_ ?_
            refine xU 16 78 (xM 29 131071) HT_ ?_
            refine xU 17 79 (xM 29 262143) HT_ ?_
            refine xU 18 80 (xM 29 524287) HT_ ?_
            refine xU 19 81 (xM 29 1048575) HT_ ?_
            refine xU 20 82 (xM 29 2097151) HT_ ?_
            refine xU 21 83 (xM 29 4194303) HT_ ?_
            refine xU 22 84 (xM 29 8388607) HT_ ?_
            refine xU 23 85 (xM 29 16777215) HT_ ?_
            refine xU 24 86 (xM 29 33554431) HT_ ?_
            refine xU 25 87 (xM 29 67108863) HT_ ?_
            refine xU 26 88 (xM 29 134217727) HT_ ?_
            refine xU 27 89 (xM 29 268435455) HT_ ?_
            refine xP 28 90 (xM 29 536870911) HT_ ?_
            refine done_ (done_of HT_.out (by kernel_rfl)) ?_
            clear HT_ HW_ hHeld
            go_wp2
            go_roundg (l1.length - (i + 1))
            case measure => have := GK.out; have := HI.out; omega
            case rel => exact ⟨i + 1, by simp, rfl, rfl, rfl, ⟨HI.out⟩, ⟨Nat.le_refl _⟩, ⟨fun j hj => by
              by_cases e : j = i
              · subst e; unfold hitB; rw [cmp_bit HI.out, HBT.out]; rfl
              · exact GH.out j (by omega)⟩, HD, MD⟩
          | false =>
            have hb' : (bits .and .i64 ((mk : Int) / 2 ^ i) 1 == 1) = false := by rw [i64_bit mk i HM6.out, hbt]
            have HBT := Aside0.mk hbt
            clear hbt
            go_upto_region 18 with (fail)
            try go_wp2
            have HD := Aside0.mk SI_.out.drew
            have MD : Aside0 (MemoOK w wr.drew mb cap l1.length (VV (lf h0 h1 h2) l1)) := ⟨MI.out.keep rfl⟩
            clear SI_ MI
            refine start_ (n := 29) (S := fun w' => w'.cell? ⟨hb, 0, none⟩ = some (.int .i64 h0) ∧ w'.cell? ⟨hb, 1, none⟩ = some (.int .i64 h1) ∧ w'.cell? ⟨hb, 2, none⟩ = some (.int .i64 h2) ∧ w'.cell? ⟨ab, 0, none⟩ = some (.int .i64 s.f0) ∧ w'.cell? ⟨ab, 1, none⟩ = some (.int .i64 s.f1) ∧ w'.cell? (ad.add (i * 2)) = some (.int .i64 pi.f0) ∧ w'.cell? ⟨(ad.add (i * 2)).block, (ad.add (i * 2)).off + 1, none⟩ = some (.int .i64 pi.f1)) (ds := []) (xM 29 0) (by kernel_rfl) rfl rfl ⟨(HD.out.s.cell 2 rfl 0).trans rfl, (HD.out.s.cell 2 rfl 1).trans rfl, (HD.out.s.cell 2 rfl 2).trans rfl, (HD.out.s.cell 0 rfl 0).trans rfl, (HD.out.s.cell 0 rfl 1).trans rfl, (HD.out.s.below.cell (World.block_lt_of_cell? w _ HX0.out)).trans HX0.out, (HD.out.s.below.cell (World.block_lt_of_cell? w _ HX1.out)).trans HX1.out⟩ (fun hHeld => ?_)
            refine with_tabW sb.tab18 sb.bits18 (fun HT_ HW_ => ?_)
            generalize wr.drew = wd_ at HD MD hHeld ⊢
            refine xP 0 62 (xM 29 1) HT_ ?_
            refine xP 1 63 (xM 29 3) HT_ ?_
            refine xP 2 64 (xM 29 7) HT_ ?_
            refine xP 3 65 (xM 29 15) HT_ ?_
            rw [u64_cv hi9]
            refine xP 4 66 (xM 29 31) HT_ ?_
            refine xP 5 67 (xM 29 63) HT_ ?_
            try rw [hb']
            refine xP 6 68 (xM 29 127) HT_ ?_
            refine xQ 7 69 (xM 29 255) HT_ HW_ hHeld ?_
            refine xQ 8 70 (xM 29 511) HT_ HW_ hHeld ?_
            refine xP 9 71 (xM 29 1023) HT_ ?_
            refine xP 10 72 (xM 29 2047) HT_ ?_
            refine xP 11 73 (xM 29 4095) HT_ ?_
            refine xQ 12 74 (xM 29 8191) HT_ HW_ hHeld ?_
            refine xP 14 76 (xM 29 24575) HT_ ?_
            refine xP 15 77 (xM 29 57343) HT_ ?_
            refine xP 16 78 (xM 29 122879) HT_ ?_
            refine xP 17 79 (xM 29 253951) HT_ ?_
            refine xP 18 80 (xM 29 516095) HT_ ?_
            rw [u64_cv hi9]
            refine xP 19 81 (xM 29 1040383) HT_ ?_
            rw [i64_or mk i HM6.out (by omega)]
            refine xP 20 82 (xM 29 2088959) HT_ ?_
            refine xP 23 85 (xM 29 10477567) HT_ ?_
            refine xP 24 86 (xM 29 27254783) HT_ ?_
            refine xP 25 87 (xM 29 60809215) HT_ ?_
            refine one_ (i := 13) (N := some 75) (xM 29 60817407) rfl rfl (one_of HT_.out (by kernel_rfl)) (by decide) (fun K hK => ?_)
            refine goes_ Try.func19 (by kernel_rfl) rfl #[.agg (H3 h0 h1 h2), .agg (H2 s.f0 s.f1), .agg (H2 pi.f0 pi.f1)] (by rfl) rfl rfl (by (try simp only [List.map_toArray, List.map_cons, List.map_nil]); first | done | rfl) ?_
            with_reducible refine (spec_l19Far.calls h0 h1 h2 s.f0 s.f1 pi.f0 pi.f1 _ _ (lf_eq ..)).mono ?_
            rintro e w5 ⟨rfl, hb9⟩
            refine ⟨_, rfl, ?_⟩
            have S5 := Aside0.mk (HD.out.go hb9)
            have M5 := Aside0.mk (MD.out.go hb9)
            clear hb9
            refine hK.out _ _ ⟨(S5.out.s.cell 2 rfl 0).trans rfl, (S5.out.s.cell 2 rfl 1).trans rfl, (S5.out.s.cell 2 rfl 2).trans rfl, (S5.out.s.cell 0 rfl 0).trans rfl, (S5.out.s.cell 0 rfl 1).trans rfl, (S5.out.s.below.cell (World.block_lt_of_cell? w _ HX0.out)).trans HX0.out, (S5.out.s.below.cell (World.block_lt_of_cell? w _ HX1.out)).trans HX1.out⟩ (fun hHeld => ?_)
            clear hK K
            refine norm_ (a' := ?_) ?_ ?_
            rotate_left
            · show Act.put _ (some 75) _ = _
              simp only [Act.put, List.setIfInBounds_toArray, List.set_cons_zero, List.set_cons_succ, i64_w, i32_w]
              rfl
            refine one_ (i := 21) (N := some 83) (xM 29 62914559) rfl rfl (one_of HT_.out (by kernel_rfl)) (by decide) (fun K hK => ?_)
            refine goes_ Try.func20 (by kernel_rfl) rfl #[.pointer (some ⟨xb, 0, none⟩), .int .i64 ((orb mk i : Nat) : Int), .int .i64 (i : Int)] (by rfl) rfl rfl (by (try simp only [List.map_toArray, List.map_cons, List.map_nil]); first | done | rfl) ?_
            with_reducible refine (least_calls h0 h1 h2 _ c1 l1 hl9 w HR.out hc1 mb xb cap GMB.out (S5.out.blk 1 rfl).2 NN (2 ^ l1.length - 1) HNN.out rfl l1.length (orb mk i) i _ (orb_lt HM.out HI.out) (Nat.le_of_lt HI.out) (pc_le _ _) S5.out.s.below (S5.out.blk 1 rfl).1 M5.out).mono ?_
            rintro e w6 ⟨rfl, hb9, hk9, hm9'⟩
            refine ⟨_, rfl, ?_⟩
            have S6 := Aside0.mk (S5.out.call hb9 hk9)
            have M6 := Aside0.mk hm9'
            clear hb9 hk9 hm9'
            refine hK.out _ _ ⟨(S6.out.s.cell 2 rfl 0).trans rfl, (S6.out.s.cell 2 rfl 1).trans rfl, (S6.out.s.cell 2 rfl 2).trans rfl, (S6.out.s.cell 0 rfl 0).trans rfl, (S6.out.s.cell 0 rfl 1).trans rfl, (S6.out.s.below.cell (World.block_lt_of_cell? w _ HX0.out)).trans HX0.out, (S6.out.s.below.cell (World.block_lt_of_cell? w _ HX1.out)).trans HX1.out⟩ (fun hHeld => ?_)
            clear hK K
            refine norm_ (a' := ?_) ?_ ?_
            rotate_left
            · show Act.put _ (some 83) _ = _
              simp only [Act.put, List.setIfInBounds_toArray, List.set_cons_zero, List.set_cons_succ, i64_w, i32_w]
              rfl
            refine xP 22 84 (xM 29 67108863) HT_ ?_
            refine one_ (i := 26) (N := some 88) (xM 29 134217727) rfl rfl (one_of HT_.out (by kernel_rfl)) (by decide) (fun K hK => ?_)
            refine goes_ Try.func20 (by kernel_rfl) rfl #[.pointer (some ⟨xb, 0, none⟩), .int .i64 ((mk : Nat) : Int), .int .i64 (la : Int)] (by rfl) rfl rfl (by (try simp only [List.map_toArray, List.map_cons, List.map_nil]); first | done | rfl) ?_
            with_reducible refine (least_calls h0 h1 h2 _ c1 l1 hl9 w HR.out hc1 mb xb cap GMB.out (S6.out.blk 1 rfl).2 NN (2 ^ l1.length - 1) HNN.out rfl l1.length (mk) la _ HM.out HLA.out (pc_le _ _) S6.out.s.below (S6.out.blk 1 rfl).1 M6.out).mono ?_
            rintro e w7 ⟨rfl, hb9, hk9, hm9'⟩
            refine ⟨_, rfl, ?_⟩
            have S7 := Aside0.mk (S6.out.call hb9 hk9)
            have M7 := Aside0.mk hm9'
            clear hb9 hk9 hm9'
            refine hK.out _ _ ⟨(S7.out.s.cell 2 rfl 0).trans rfl, (S7.out.s.cell 2 rfl 1).trans rfl, (S7.out.s.cell 2 rfl 2).trans rfl, (S7.out.s.cell 0 rfl 0).trans rfl, (S7.out.s.cell 0 rfl 1).trans rfl, (S7.out.s.below.cell (World.block_lt_of_cell? w _ HX0.out)).trans HX0.out, (S7.out.s.below.cell (World.block_lt_of_cell? w _ HX1.out)).trans HX1.out⟩ (fun hHeld => ?_)
            clear hK K
            refine norm_ (a' := ?_) ?_ ?_
            rotate_left
            · show Act.put _ (some 88) _ = _
              simp only [Act.put, List.setIfInBounds_toArray, List.set_cons_zero, List.set_cons_succ, i64_w, i32_w]
              rfl
            clear S5 M5 S6 M6 HD MD
            have HQ : Aside0 ((wrap64 (lf h0 h1 h2 s pi + VV (lf h0 h1 h2) l1 (orb mk i) i) == VV (lf h0 h1 h2) l1 mk la) = hitB (lf h0 h1 h2) l1 (cmp l1.length mk) s i) := ⟨by
              unfold hitB GG VV
              rw [HAT.out, cmp_bit HI.out, HBT.out, ← HPI.out, cmp_or HI.out HBT.out, show atS l1 i = pi from by unfold atS; rw [if_pos HI.out, ← HPI.out]]
              rfl⟩
            generalize (wrap64 (lf h0 h1 h2 s pi + VV (lf h0 h1 h2) l1 (orb mk i) i)) = va at HQ ⊢
            generalize (VV (lf h0 h1 h2) l1 mk la) = vb at HQ ⊢
            cases hq : (va == vb) with
            | false =>
              have hqn : (va != vb) = true := by unfold bne; rw [hq]; rfl
              have HHN := Aside0.mk (HQ.out.symm.trans hq)
              refine xP 27 89 (xM 29 268435455) HT_ ?_
              try rw [hqn]
              refine xP 28 90 (xM 29 536870911) HT_ ?_
              refine done_ (done_of HT_.out (by kernel_rfl)) ?_
              clear HT_ HW_ hHeld hqn hq
              go_wp2
              go_roundg (l1.length - (i + 1))
              case measure => have := GK.out; have := HI.out; omega
              case rel => exact ⟨i + 1, by simp, rfl, rfl, rfl, ⟨HI.out⟩, ⟨Nat.le_refl _⟩, ⟨fun j hj => by
                by_cases e : j = i
                · subst e; exact HHN.out
                · exact GH.out j (by omega)⟩, S7, M7⟩
            | true =>
              have hqn : (va != vb) = false := by unfold bne; rw [hq]; rfl
              have HHIT := Aside0.mk (HQ.out.symm.trans hq)
              refine xP 27 89 (xM 29 268435455) HT_ ?_
              try rw [hqn]
              refine xP 28 90 (xM 29 536870911) HT_ ?_
              refine done_ (done_of HT_.out (by kernel_rfl)) ?_
              clear HT_ HW_ hHeld hqn hq
              have HPC := Aside0.mk (pc_clr (cmp l1.length mk) i (by rw [cmp_bit HI.out, HBT.out]; rfl) l1.length HI.out)
              go_wp2_with (first | ((with_reducible refine gate_builtin (b := .append) (xs := #[.tmp 91, .tmp 93]) rfl ?_); (try (refine gate_guard (by rfl) ?_; dsimp only)); at_builtin; refine Kd.R_append (Kd.int .i64) (w0 := w) w.heap.size rfl (.tmp 91) (.tmp 93) 26 3 (.int .i64 0) 8 rfl Try.underlying26 (by kernel_rfl) rfl (by decide) (by decide) _ out (i : Int) [.int .i64 (i : Int)] (fun k_ => P k_ ∨ w7.heap.size ≤ k_) (fun _ => False) rfl rfl rfl (fun _ hk => hk.elim) (fun _ hk => .inr hk) (Kd.R_mono S7.out.s.row (fun _ hk => .inl hk)) S7.out.s.below S7.out.s.below.size (by have := HL.out; omega) ?_; intro v11 w10 hr10 hb10 hg10 hat10; have S10 := Aside0.mk (S7.out.appended hr10 hb10 hg10); have M10 := Aside0.mk (S7.out.grownM M7.out hg10); clear hr10 hb10 hg10 hat10; have ha0 := (S10.out.s.cell 0 rfl 0).trans rfl; have ha1 := (S10.out.s.cell 0 rfl 1).trans rfl; have fa0 := S10.out.s.froz 0 rfl 0; have fa1 := S10.out.s.froz 0 rfl 1; have hy0 := (S10.out.s.below.cell (World.block_lt_of_cell? w _ HX0.out)).trans HX0.out; have hy1 := (S10.out.s.below.cell (World.block_lt_of_cell? w _ HX1.out)).trans HX1.out))
              have S11 := Aside0.mk ((S10.out.put 0 0 (.int .i64 pi.f0) rfl rfl).put 0 1 (.int .i64 pi.f1) rfl rfl)
              have M11 := Aside0.mk ((S10.out.put 0 0 (.int .i64 pi.f0) rfl rfl).farM (S10.out.farM M10.out (i := 0) rfl 0 (.int .i64 pi.f0)) (i := 0) rfl 1 (.int .i64 pi.f1))
              generalize (w10.setCell ⟨ab, 0, none⟩ (.int .i64 pi.f0)).setCell ⟨ab, 1, none⟩ (.int .i64 pi.f1) = w11 at S11 M11 ⊢
              clear S7 M7 S10 M10 ha0 ha1 fa0 fa1 hy0 hy1
              go_roundg (pc l1.length (clr (cmp l1.length mk) i))
              case measure => have := HK.out; have := HPC.out; omega
              case rel =>
                have hf := HF.out
                have hp := HPC.out
                have hl_ := HL.out
                obtain ⟨f', rfl⟩ : ∃ f', f = f' + 1 := ⟨f - 1, by omega⟩
                have ho := HO.out
                rw [ordF_step (lf h0 h1 h2) l1 HM0.out GH.out HHIT.out HI.out f', ← HPI.out] at ho
                have hco := cmp_or HI.out HBT.out
                exact ⟨orb mk i, i, pi, out ++ [(i : Int)], _, f', by rw [i64_or mk i HM6.out (by omega)], rfl, ⟨orb_lt HM.out HI.out⟩, ⟨Nat.le_of_lt HI.out⟩, ⟨by unfold atS; rw [if_pos HI.out, ← HPI.out]⟩, ⟨by rw [hco, List.append_assoc]; exact ho⟩, ⟨by rw [hco]; omega⟩, ⟨by rw [hco]; exact Nat.le_refl _⟩, ⟨by rw [hco, List.length_append]; simp only [List.length_cons, List.length_nil]; omega⟩, S11, M11⟩

end Go.Proofs.Ythjchjnibbapcaa.J
