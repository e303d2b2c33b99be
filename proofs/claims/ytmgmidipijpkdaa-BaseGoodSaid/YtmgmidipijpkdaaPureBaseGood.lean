/- The plain law of BaseGood: what the printed functions compute answers as the statement says. -/
import Derived.Test.YtmgmidipijpkdaaPAx18
import Derived.Test.YtmgmidipijpkdaaSzg
import Derived.Test.YtmgmidipijpkdaaLivesD
namespace Go.Proofs.Ytmgmidipijpkdaa.Pure
open Go.RowKit Go.Proofs.Ytmgmidipijpkdaa.PA Go.Proofs.YtmgmidipijpkdaaW.PrintWords Go.Proofs.YtmgmidipijpkdaaW.PrintMore Go.Proofs.Ytmgmidipijpkdaa.Evs Go.Proofs.Ytmgmidipijpkdaa.Szg Go.Proofs.Ytmgmidipijpkdaa.LivesC
set_option linter.unusedVariables false
set_option linter.unusedSimpArgs false
theorem raise_same (a0 a1 a2 : Int) (a3 : Bool) (a4 a5 a6 : Int) : base_Raise.f a0 a1 a2 a3 a4 a5 a6 = parterreref22_Raise.f a0 a1 a2 a3 a4 a5 a6 := by
  unfold base_Raise.f parterreref22_Raise.f mx
  by_cases h : a6 < a5
  · rw [if_pos h]
    simp only [Option.some.injEq, Prod.mk.injEq, true_and]
    split <;> omega
  · rw [if_neg h]
    simp only [Option.some.injEq, Prod.mk.injEq, true_and]
    split <;> omega
theorem BaseGood : parterrelaw22_BaseGood.Pure := by
  intro a0 a1 a2 a3 a4 a5 a6 _ _ _ _ _ _
  refine Ev.rounds ?_
  unfold parterrelaw22_BaseGood.f
  refine Ev.bind (good_ev a0 a1 a2 a3 a4 a5 a6) (Ev.bind (rgood_ev a0 a1 a2 a3 a4 a5 a6) ?_)
  simp only [beq_self_eq_true, if_true]
  rw [raise_same]
  unfold parterreref22_Raise.f
  simp only [Option.bind_some, beq_self_eq_true, Bool.and_self, if_true]
  exact Ev.bind lives_ev (Ev.now _)
end Go.Proofs.Ytmgmidipijpkdaa.Pure
