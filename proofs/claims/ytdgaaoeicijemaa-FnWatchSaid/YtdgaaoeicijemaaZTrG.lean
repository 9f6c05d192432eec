/- What is drawn for a trace, and its bounds: a trace that is right. -/
import Derived.Test.YtdgaaoeicijemaaZTracG
namespace Go.Proofs.Ytdgaaoeicijemaa.ZTrG
open Go.RowKit Go.Proofs.Ytdgaaoeicijemaa.G Go.Proofs.Ytdgaaoeicijemaa.Lib Go.Proofs.Ytdgaaoeicijemaa.Flo Go.Proofs.Ytdgaaoeicijemaa.ZTracG Go.Proofs.YtdgaaoeicijemaaW.PrintWords Go.Proofs.YtdgaaoeicijemaaW.PrintLast Go.Proofs.YtdgaaoeicijemaaW.PrintMore

theorem nan_ne {x : Nat} (h : isN x) : fEq .f64 x x = false := by
  obtain ⟨s, t, hr⟩ := h
  show (Ieee.double.order x x == some .eq) = false
  unfold Ieee.Format.order
  rw [hr]; rfl
theorem degs_in : degs.all inR = true := by decide +kernel
theorem el_ok {x : Nat} (h : elOK x) : okT x = true := by
  unfold okT
  rcases h with h | h
  · rw [nan_ne h]; rfl
  · rw [List.all_eq_true.1 degs_in x h, Bool.or_true]
theorem tr_trace {r1 : List Nat} {r2 r3 : Nat} {r4 : Int} (h : TrOK r1 r2 r3 r4) : traceB r1 = true := by
  unfold traceB
  rw [decide_eq_true (by have := h.1; omega), Bool.true_and]
  exact List.all_eq_true.2 (fun x hx => el_ok (h.2.1 x hx))
def highB (p q : Nat) : Bool := match floatBits .add .f64 (floatOfInt .f64 (p : Int)) (floatOfInt .f64 (q : Int)) with
  | some r => inR r && (inR (floatOfInt .f64 (p : Int)) && !fGt .f64 (floatOfInt .f64 (p : Int)) r)
  | none => false
theorem highs_in : ((List.range 8).all fun p => (List.range 4).all fun q => highB p q) = true := by decide +kernel
theorem high_in {r2 r3 : Nat} (h : highOK r2 r3) : inR r2 = true ∧ inR r3 = true ∧ fGt .f64 r3 r2 = false := by
  obtain ⟨p, q, hp, hq, rfl, hr⟩ := h
  have h1 : highB p q = true := List.all_eq_true.1 (List.all_eq_true.1 highs_in p (List.mem_range.2 hp)) q (List.mem_range.2 hq)
  unfold highB at h1
  rw [hr] at h1
  dsimp only at h1
  rw [Bool.and_eq_true, Bool.and_eq_true] at h1
  exact ⟨h1.1, h1.2.1, by simpa using h1.2.2⟩
end Go.Proofs.Ytdgaaoeicijemaa.ZTrG
