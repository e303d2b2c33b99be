/- The chapter's example, found by the kernel. No condition. -/
import Derived.Test.YtckjdlmfibjpaaaGreatT
import Derived.Test.YtckjdlmfibjpaaaGreatSx6
set_option linter.unusedVariables false
set_option maxRecDepth 100000
namespace Go.Proofs.YtckjdlmfibjpaaaGreat.T
open Go Go.Proofs.YtckjdlmfibjpaaaGreat.Sx
theorem lives_sp : Says tr c_law27_lives [] [B true] := says_of_run (t := law27_lives) rfl (n := 4000) (by kernel_rfl)
end Go.Proofs.YtckjdlmfibjpaaaGreat.T
