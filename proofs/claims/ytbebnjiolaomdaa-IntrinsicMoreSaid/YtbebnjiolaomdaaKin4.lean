/- What the document's trees come to that tell what is wanted, as far as fixed tracks let it. No condition beyond what each states. -/
import Derived.Test.YtbebnjiolaomdaaT
import Derived.Test.YtbebnjiolaomdaaKin3
set_option linter.unusedVariables false
set_option linter.unusedSimpArgs false
set_option maxRecDepth 10000
namespace Go.Proofs.Ytbebnjiolaomdaa.T
open Go Go.Proofs.Ytbebnjiolaomdaa.Sx Go.Proofs.Ytbebnjiolaomdaa.M

theorem cut_cons {α : Type} (l : List α) {i t : Nat} (hi : i < t) (hl : i < l.length) : (l.drop i).take (t - i) = l[i] :: (l.drop (i + 1)).take (t - (i + 1)) := by
  rw [List.drop_eq_getElem_cons hl, show t - i = (t - (i + 1)) + 1 by omega, List.take_succ_cons]
end Go.Proofs.Ytbebnjiolaomdaa.T
