-- written by a program of this session (the print's words that this claim uses)
import Derived.Test.YtecccaniopkphaaWInv
import Derived.Test.YtecccaniopkphaaWFootNe
namespace Go.Proofs.YtecccaniopkphaaW.PrintWords
open Go.RowKit
end Go.Proofs.YtecccaniopkphaaW.PrintWords
namespace Go.Proofs.YtecccaniopkphaaW.PrintLast
section
variable {ops : Array Oper} {a : Act} {o og : Oper} {g : Nat} {t : Tmp} {u : Bool}
end
end Go.Proofs.YtecccaniopkphaaW.PrintLast
