/- The volts and amps that are drawn lie in the bounds. -/
import Derived.Test.YtdgaaoeicijemaaZPowsV
namespace Go.Proofs.Ytdgaaoeicijemaa.ZVoltsV
open Go.RowKit Go.Proofs.Ytdgaaoeicijemaa.V Go.Proofs.Ytdgaaoeicijemaa.Lib Go.Proofs.Ytdgaaoeicijemaa.ZPowsV Go.Proofs.YtdgaaoeicijemaaW.PrintWords Go.Proofs.YtdgaaoeicijemaaW.PrintLast Go.Proofs.YtdgaaoeicijemaaW.PrintMore

def okQ (x y : Nat) : Bool := match floatBits .quo .f64 x y with | some r => inP r | none => false
theorem volts_all : (List.range 480).all (fun n => okQ (floatOfInt .f64 ((n : Int) + 1)) 4616189618054758400) = true := by decide +kernel
theorem amps_all : (List.range 160).all (fun n => okQ (floatOfInt .f64 ((n : Int) - 80)) 4620693217682128896) = true := by decide +kernel
end Go.Proofs.Ytdgaaoeicijemaa.ZVoltsV
