/- The chapter's example, found by the kernel. No condition. -/
import Derived.Test.YtbebnjiolaomdaaT
import Derived.Test.YtbebnjiolaomdaaSx6
set_option linter.unusedVariables false
set_option maxRecDepth 100000
namespace Go.Proofs.Ytbebnjiolaomdaa.T
open Go Go.Proofs.Ytbebnjiolaomdaa.Sx
theorem lives_sp : Says tr c_law24_lives [] [B true] := says_of_run (t := law24_lives) rfl (n := 4000) (by kernel_rfl)
end Go.Proofs.Ytbebnjiolaomdaa.T
