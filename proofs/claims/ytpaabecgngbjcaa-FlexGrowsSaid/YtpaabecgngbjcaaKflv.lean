/- The chapter's example, found by the kernel. No condition. -/
import Derived.Test.YtpaabecgngbjcaaT
import Derived.Test.YtpaabecgngbjcaaSx4
set_option linter.unusedVariables false
set_option maxRecDepth 10000
namespace Go.Proofs.Ytpaabecgngbjcaa.T
open Go Go.Proofs.Ytpaabecgngbjcaa.Sx
theorem lives_sp : Says tr c_law26_lives [] [B true] := says_of_run (t := law26_lives) rfl (n := 1000) (by decide +kernel)
end Go.Proofs.Ytpaabecgngbjcaa.T
