/- The plain law of SelfLimits: what the printed functions compute answers as the statement says. -/
import Derived.Test.YtbenanokgfphmaaPBx11
import Derived.Test.YtbenanokgfphmaaLim
namespace Go.Proofs.Ytbenanokgfphmaa.Pure
open Go.RowKit Go.Proofs.Ytbenanokgfphmaa.PB Go.Proofs.YtbenanokgfphmaaW.PrintWords Go.Proofs.Ytbenanokgfphmaa.Evs Go.Proofs.Ytbenanokgfphmaa.Self
theorem SelfLimits : parterrelaw29_SelfLimits.Pure := by
  intro n l0 l1 h0 h1 basis d c0 c1 hn hl0 hl1 hh0 hh1 hb hc0 hc1
  refine Ev.rounds (g := fun k => parterrelaw29_SelfLimits.f k n l0 l1 h0 h1 basis d c0 c1) ?_
  unfold parterrelaw29_SelfLimits.f
  refine Ev.bind (limit_ev hl1 hb d c0 c1) ?_
  refine Ev.bind (rlimit_ev hl1 hb d c0 c1) ?_
  simp only [if_true, bne_self_eq_false, Bool.false_eq_true, if_false]
  refine Ev.step (f := fun k => (self_Clamp.f k n l0 l1 h0 h1 basis d c0 c1).bind fun b => (parterreref29_Clamp.f k n l0 l1 h0 h1 basis d c0 c1).bind fun c => if b.1 = c.1 then (if b.2 = c.2 then (parterrelaw29_lives.f k).bind fun t => some t else some false) else some false) (fun k => by simp only [parterrelaw29_SelfLimits.j0, Bool.false_eq_true, if_false]) ?_
  refine Ev.bind (clamp_ev hl1 hh1 hb d c0 c1) ?_
  refine Ev.bind (rclamp_ev hl1 hh1 hb d c0 c1) ?_
  simp only [if_true]
  exact Ev.bind lives_ev (Ev.now _)
end Go.Proofs.Ytbenanokgfphmaa.Pure
