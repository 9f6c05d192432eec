/- What a reading that is drawn adds, above a bound that is drawn, is above nothing. -/
import Derived.Test.YtdgaaoeicijemaaZWarmG
import Derived.Test.YtdgaaoeicijemaaZTrG
namespace Go.Proofs.Ytdgaaoeicijemaa.ZPartG
open Go.RowKit Go.Proofs.Ytdgaaoeicijemaa.G Go.Proofs.Ytdgaaoeicijemaa.Lib Go.Proofs.Ytdgaaoeicijemaa.Flo Go.Proofs.Ytdgaaoeicijemaa.ZTracG Go.Proofs.Ytdgaaoeicijemaa.ZTrG Go.Proofs.Ytdgaaoeicijemaa.ZWarmG Go.Proofs.YtdgaaoeicijemaaW.PrintWords Go.Proofs.YtdgaaoeicijemaaW.PrintLast Go.Proofs.YtdgaaoeicijemaaW.PrintMore

def his : List Nat := (List.range 11).map fun (n : Nat) => floatOfInt .f64 (n : Int)
def hisB (p q : Nat) : Bool := match floatBits .add .f64 (floatOfInt .f64 (p : Int)) (floatOfInt .f64 (q : Int)) with
  | some r => his.contains r
  | none => false
theorem his_all : ((List.range 8).all fun p => (List.range 4).all fun q => hisB p q) = true := by decide +kernel
theorem high_his {r2 r3 : Nat} (h : highOK r2 r3) : r2 ∈ his := by
  obtain ⟨p, q, hp, hq, rfl, hr⟩ := h
  have h1 : hisB p q = true := List.all_eq_true.1 (List.all_eq_true.1 his_all p (List.mem_range.2 hp)) q (List.mem_range.2 hq)
  unfold hisB at h1
  rw [hr] at h1
  dsimp only at h1
  exact List.contains_iff_mem.1 h1
def partB (h x : Nat) : Bool := fLe .f64 x h || fGt .f32 (ZWarmG.part h 1065353216 x) 0
theorem parts_all : (his.all fun h => degs.all fun x => partB h x) = true := by decide +kernel
theorem part_pos {h x : Nat} (hh : h ∈ his) (hx : x ∈ degs) (hl : ¬ fLe .f64 x h = true) : fGt .f32 (ZWarmG.part h 1065353216 x) 0 = true := by
  have h1 : partB h x = true := List.all_eq_true.1 (List.all_eq_true.1 parts_all h hh) x hx
  unfold partB at h1
  rw [Bool.eq_false_iff.2 hl, Bool.false_or] at h1
  exact h1
end Go.Proofs.Ytdgaaoeicijemaa.ZPartG
