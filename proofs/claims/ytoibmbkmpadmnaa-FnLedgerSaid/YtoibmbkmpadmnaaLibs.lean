/- More loops: a list whose elements are right and differ from each other; a list that is gathered. -/
import Derived.Test.YtoibmbkmpadmnaaLib
namespace Go.Proofs.Ytoibmbkmpadmnaa.Lib
open Go.RowKit Go.Proofs.YtoibmbkmpadmnaaW.PrintWords Go.Proofs.YtoibmbkmpadmnaaW.PrintLast Go.Proofs.YtoibmbkmpadmnaaW.PrintMore

end Go.Proofs.Ytoibmbkmpadmnaa.Lib
