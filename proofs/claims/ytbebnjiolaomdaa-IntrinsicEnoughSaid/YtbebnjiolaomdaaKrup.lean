/- What the tree of the document's Up comes to: the level by halving. No condition beyond what each states. -/
import Derived.Test.YtbebnjiolaomdaaT
import Derived.Test.YtbebnjiolaomdaaKspread
set_option linter.unusedVariables false
set_option linter.unusedSimpArgs false
namespace Go.Proofs.Ytbebnjiolaomdaa.T
open Go Go.Proofs.Ytbebnjiolaomdaa.Sx Go.Proofs.Ytbebnjiolaomdaa.M
def RightB (S : Int) (l : List Int) : Bool := decide (0 ≤ S) && decide (S < 1125899906842624) && decide (l.length ≤ 65536) && roomsB l
theorem RightB_iff (S : Int) (l : List Int) : RightB S l = true ↔ UpOk S l := by
 simp only [RightB, UpOk, Bool.and_eq_true, decide_eq_true_eq, roomsB_iff, and_assoc]
end Go.Proofs.Ytbebnjiolaomdaa.T
