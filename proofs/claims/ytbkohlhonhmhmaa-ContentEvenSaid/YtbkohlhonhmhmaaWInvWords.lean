-- written by a program of this session (the print's words that this claim uses)
import Derived.Test.YtbkohlhonhmhmaaWInv
import Derived.Test.YtbkohlhonhmhmaaWFootNe
namespace Go.Proofs.YtbkohlhonhmhmaaW.PrintWords
open Go.RowKit
end Go.Proofs.YtbkohlhonhmhmaaW.PrintWords
namespace Go.Proofs.YtbkohlhonhmhmaaW.PrintLast
section
variable {ops : Array Oper} {a : Act} {o og : Oper} {g : Nat} {t : Tmp} {u : Bool}
end
end Go.Proofs.YtbkohlhonhmhmaaW.PrintLast
