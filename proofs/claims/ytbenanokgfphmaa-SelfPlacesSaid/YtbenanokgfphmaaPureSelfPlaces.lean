/- The plain law of SelfPlaces: what the printed functions compute answers as the statement says. -/
import Derived.Test.YtbenanokgfphmaaPAx4
import Derived.Test.YtbenanokgfphmaaSelf
namespace Go.Proofs.Ytbenanokgfphmaa.Pure
open Go.RowKit Go.Proofs.Ytbenanokgfphmaa.PA Go.Proofs.YtbenanokgfphmaaW.PrintWords Go.Proofs.Ytbenanokgfphmaa.Evs Go.Proofs.Ytbenanokgfphmaa.Self
theorem SelfPlaces : parterrelaw29_SelfPlaces.Pure := by
  intro area size au an bu bn align _ _ _ _ _
  refine Ev.rounds (g := fun k => parterrelaw29_SelfPlaces.f k area size au an bu bn align) ?_
  unfold parterrelaw29_SelfPlaces.f
  refine Ev.bind (place_ev area size au an bu bn align) ?_
  refine Ev.bind (rplace_ev area size au an bu bn align) ?_
  simp only [if_true]
  exact Ev.bind lives_ev (Ev.now _)
end Go.Proofs.Ytbenanokgfphmaa.Pure
