/- The sizer's tree holds the trees written once. No condition. -/
import Derived.Test.YtbebnjiolaomdaaGreatT
import Derived.Test.YtbebnjiolaomdaaGreatKgz
set_option linter.unusedVariables false
set_option maxRecDepth 100000
namespace Go.Proofs.YtbebnjiolaomdaaGreat.T
open Go Go.Proofs.YtbebnjiolaomdaaGreat.Sx Go.Proofs.YtbebnjiolaomdaaGreat.M
theorem same_j19 : intrinsic_Size_j19 = ka := by rfl
theorem same_j107 : intrinsic_Size_j107 = ea := by rfl
end Go.Proofs.YtbebnjiolaomdaaGreat.T
