/- More loops: a list whose elements are right and differ from each other; a list that is gathered. -/
import Derived.Test.YtnkceaibkfbeaaaLib
namespace Go.Proofs.Ytnkceaibkfbeaaa.Lib
open Go.RowKit Go.Proofs.YtnkceaibkfbeaaaW.PrintWords Go.Proofs.YtnkceaibkfbeaaaW.PrintLast Go.Proofs.YtnkceaibkfbeaaaW.PrintMore

end Go.Proofs.Ytnkceaibkfbeaaa.Lib
