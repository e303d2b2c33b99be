/- The plain law of SelfUsed: what the printed functions compute answers as the statement says. -/
import Derived.Test.YtbenanokgfphmaaPBx15
import Derived.Test.YtbenanokgfphmaaUsed
namespace Go.Proofs.Ytbenanokgfphmaa.Pure
open Go.RowKit Go.Proofs.Ytbenanokgfphmaa.PB Go.Proofs.YtbenanokgfphmaaW.PrintWords Go.Proofs.Ytbenanokgfphmaa.Evs Go.Proofs.Ytbenanokgfphmaa.Self
theorem SelfUsed : parterrelaw29_SelfUsed.Pure := by
  intro v0 v1 l0 l1 h0 h1 area au an bu bn c0 c1 st hv0 hv1 hl0 hl1 hh0 hh1 ha han hbn hc0 hc1
  refine Ev.rounds (g := fun k => parterrelaw29_SelfUsed.f k v0 v1 l0 l1 h0 h1 area au an bu bn c0 c1 st) ?_
  unfold parterrelaw29_SelfUsed.f
  refine Ev.bind (used_ev hv1 hl1 hh1 ha au an bu bn c0 c1 st) ?_
  refine Ev.bind (rused_ev hv1 hl1 hh1 ha au an bu bn c0 c1 st) ?_
  simp only [if_true, inner_eq, rinner_eq, Option.bind_some]
  exact Ev.bind lives_ev (Ev.now _)
end Go.Proofs.Ytbenanokgfphmaa.Pure
