/- The chapter's example, found by the kernel. No condition. -/
import Derived.Test.YtbebnjiolaomdaaGreatT
import Derived.Test.YtbebnjiolaomdaaGreatSx6
set_option linter.unusedVariables false
set_option maxRecDepth 100000
namespace Go.Proofs.YtbebnjiolaomdaaGreat.T
open Go Go.Proofs.YtbebnjiolaomdaaGreat.Sx
theorem lives_sp : Says tr c_law24_lives [] [B true] := says_of_run (t := law24_lives) rfl (n := 4000) (by kernel_rfl)
end Go.Proofs.YtbebnjiolaomdaaGreat.T
