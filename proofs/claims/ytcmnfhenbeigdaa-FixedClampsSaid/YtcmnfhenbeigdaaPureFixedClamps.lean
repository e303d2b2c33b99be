/- The plain law of FixedClamps: what the printed functions compute answers as the statement says. -/
import Derived.Test.YtcmnfhenbeigdaaPAx6
import Derived.Test.YtcmnfhenbeigdaaFix
namespace Go.Proofs.Ytcmnfhenbeigdaa.Pure
open Go.RowKit Go.Proofs.Ytcmnfhenbeigdaa.PA Go.Proofs.YtcmnfhenbeigdaaW.PrintWords Go.Proofs.Ytcmnfhenbeigdaa.Evs Go.Proofs.Ytcmnfhenbeigdaa.Fix
set_option linter.unusedVariables false
set_option linter.unusedSimpArgs false
theorem FixedClamps : parterrelaw01_FixedClamps.Pure := by
  intro a lo hi ha hlo hhi
  refine Ev.rounds ?_
  unfold parterrelaw01_FixedClamps.f fixed_Clamp.f parterreref01_Clamp.f
  have e1 : mx (mn a hi) lo = mx lo (mn a hi) := by unfold mx; (repeat' split) <;> omega
  have e2 : mx lo (mn (mx lo (mn a hi)) hi) = mx lo (mn a hi) := by unfold mx mn; (repeat' split) <;> omega
  have e3 : mx lo (mn a hi) ≥ lo := by unfold mx; (repeat' split) <;> omega
  have e4 : mx lo (mn a hi) ≤ hi ∨ mx lo (mn a hi) = lo := by unfold mx mn; (repeat' split) <;> omega
  simp only [Option.bind_some, e1, e2, e3, if_true]
  by_cases h : mx lo (mn a hi) ≤ hi
  · simp only [h, if_true]
    exact Ev.bind lives_ev (Ev.now _)
  · have h5 := e4.resolve_left h
    rw [h5] at h
    simp only [h5, h, if_false, if_true]
    exact Ev.bind lives_ev (Ev.now _)
end Go.Proofs.Ytcmnfhenbeigdaa.Pure
