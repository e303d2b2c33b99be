-- written by a program of this session (the print's words that this claim uses)
import Derived.Test.YtmgmidipijpkdaaWInv
import Derived.Test.YtmgmidipijpkdaaWFootNe
namespace Go.Proofs.YtmgmidipijpkdaaW.PrintWords
open Go.RowKit
end Go.Proofs.YtmgmidipijpkdaaW.PrintWords
namespace Go.Proofs.YtmgmidipijpkdaaW.PrintLast
section
variable {ops : Array Oper} {a : Act} {o og : Oper} {g : Nat} {t : Tmp} {u : Bool}
end
end Go.Proofs.YtmgmidipijpkdaaW.PrintLast
