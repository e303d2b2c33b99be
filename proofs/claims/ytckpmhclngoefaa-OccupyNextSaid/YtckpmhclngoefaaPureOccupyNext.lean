/- OccupyNext in plain words: the next column, and the next row, at which a cell is free are as the document says, or there is none. No condition beyond the statement's own. -/
import Derived.Test.YtckpmhclngoefaaPAx6
import Derived.Test.YtckpmhclngoefaaPureOccupyNear
namespace Go.Proofs.Ytckpmhclngoefaa.Pure
open Go.RowKit Go.Proofs.Ytckpmhclngoefaa.PA Go.Proofs.YtckpmhclngoefaaW.PrintWords Go.Proofs.Ytckpmhclngoefaa.Evs Go.Proofs.Ytckpmhclngoefaa.Occ
set_option linter.unusedVariables false
theorem OccupyNext : parterrelaw19_OccupyNext.Pure := by
  intro l r c h w most _ hb _ _ _ _ _ _
  refine Ev.rounds (g := fun k => parterrelaw19_OccupyNext.f k l r c h w most) ?_
  unfold parterrelaw19_OccupyNext.f
  by_cases h1 : (l.length : Int) > 40
  · simp only [h1, if_true]; exact Ev.bind lives_ev (Ev.now _)
  simp only [h1, if_false]
  refine Ev.bind (Right_ev l (by omega) r c h w most) (Ev.bind (RRight_ev l (by omega) r c h w most) ?_)
  simp only [bne_self_eq_false, if_true]
  refine Ev.step (f := fun k => (occupy_Down.f k l r c h w most).bind fun b => (parterreref19_Down.f k l r c h w most).bind fun d => if b.1 = d.1 then (if (b.2 == d.2) = true then ((parterrelaw19_lives.f k).bind fun t => some t) else some false) else some false) (fun k => by simp [parterrelaw19_OccupyNext.j0]) ?_
  refine Ev.bind (Down_ev l (by omega) r c h w most) (Ev.bind (RDown_ev l (by omega) r c h w most) ?_)
  simp only [beq_self_eq_true, if_true]
  exact Ev.bind lives_ev (Ev.now _)
end Go.Proofs.Ytckpmhclngoefaa.Pure
