/- The sizer's tree holds the trees written once. No condition. -/
import Derived.Test.YtbebnjiolaomdaaT
import Derived.Test.YtbebnjiolaomdaaKgz
set_option linter.unusedVariables false
set_option maxRecDepth 100000
namespace Go.Proofs.Ytbebnjiolaomdaa.T
open Go Go.Proofs.Ytbebnjiolaomdaa.Sx Go.Proofs.Ytbebnjiolaomdaa.M
theorem same_j19 : intrinsic_Size_j19 = ka := by rfl
theorem same_j107 : intrinsic_Size_j107 = ea := by rfl
end Go.Proofs.Ytbebnjiolaomdaa.T
