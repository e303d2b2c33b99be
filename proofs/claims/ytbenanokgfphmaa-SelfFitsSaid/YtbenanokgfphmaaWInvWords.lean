-- written by a program of this session (the print's words that this claim uses)
import Derived.Test.YtbenanokgfphmaaWInv
import Derived.Test.YtbenanokgfphmaaWFootNe
namespace Go.Proofs.YtbenanokgfphmaaW.PrintWords
open Go.RowKit
end Go.Proofs.YtbenanokgfphmaaW.PrintWords
namespace Go.Proofs.YtbenanokgfphmaaW.PrintLast
section
variable {ops : Array Oper} {a : Act} {o og : Oper} {g : Nat} {t : Tmp} {u : Bool}
end
end Go.Proofs.YtbenanokgfphmaaW.PrintLast
