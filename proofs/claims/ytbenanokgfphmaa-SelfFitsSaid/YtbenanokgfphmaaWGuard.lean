-- written by a program of this session (the print's words that this claim uses)
import Derived.Test.YtbenanokgfphmaaWWords
namespace Go.Proofs.YtbenanokgfphmaaW.PrintWords
open Go.RowKit
section
variable {P : Program} {ops : Array Oper} {rest : List Oper} {o : Oper} {a : Act} {Q : Exit → Act → World → Prop} {W : World}
end
end Go.Proofs.YtbenanokgfphmaaW.PrintWords
