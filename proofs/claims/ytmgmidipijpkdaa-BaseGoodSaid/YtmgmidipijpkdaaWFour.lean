-- written by a program of this session (the print's words that this claim uses)
import Derived.Test.YtmgmidipijpkdaaWTab
namespace Go.Proofs.YtmgmidipijpkdaaW.PrintLast
section
variable {P : Program} {ops : Array Oper} {Q : Exit → Act → World → Prop} {md : Region.Mode} {S : World → Prop} {ds : List Nat} {T : Bool × List (List Nat × List Nat)}
end
end Go.Proofs.YtmgmidipijpkdaaW.PrintLast
