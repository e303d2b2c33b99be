/- The plain law of FixedDivides: what the printed functions compute answers as the statement says. -/
import Derived.Test.YtcmnfhenbeigdaaPAx4
import Derived.Test.YtcmnfhenbeigdaaFix
namespace Go.Proofs.Ytcmnfhenbeigdaa.Pure
open Go.RowKit Go.Proofs.Ytcmnfhenbeigdaa.PA Go.Proofs.YtcmnfhenbeigdaaW.PrintWords Go.Proofs.Ytcmnfhenbeigdaa.Evs Go.Proofs.Ytcmnfhenbeigdaa.Fix
set_option linter.unusedVariables false
set_option linter.unusedSimpArgs false
theorem FixedDivides : parterrelaw01_FixedDivides.Pure := by
  intro a b ha hb
  refine Ev.rounds ?_
  have e : parterreref01_Div.f = fixed_Div.f := rfl
  have e2 : parterreref01_Mod.f = fixed_Mod.f := rfl
  have h1 : ∃ q, fixed_Div.f a b = some q := by unfold fixed_Div.f; (repeat' split) <;> exact ⟨_, rfl⟩
  obtain ⟨q, h1⟩ := h1
  have h2 : ∃ m, fixed_Mod.f a b = some m := by unfold fixed_Mod.f; rw [h1]; split <;> exact ⟨_, rfl⟩
  obtain ⟨m, h2⟩ := h2
  unfold parterrelaw01_FixedDivides.f
  rw [e, e2]
  simp only [h1, h2, Option.bind_some, if_true]
  exact Ev.bind lives_ev (Ev.now _)
end Go.Proofs.Ytcmnfhenbeigdaa.Pure
