/- OccupyTurned in plain words: downwards is to the right of what is turned; turned twice a cell is as it was. No condition beyond the statement's own. -/
import Derived.Test.YtckpmhclngoefaaPAx7
import Derived.Test.YtckpmhclngoefaaPureOccupyNear
namespace Go.Proofs.Ytckpmhclngoefaa.Pure
open Go.RowKit Go.Proofs.Ytckpmhclngoefaa.PA Go.Proofs.YtckpmhclngoefaaW.PrintWords Go.Proofs.Ytckpmhclngoefaa.Evs Go.Proofs.Ytckpmhclngoefaa.Occ
set_option linter.unusedVariables false
theorem turned_from (l : List S24) (hl : l.length ≤ 100) (r c h w most : Int) (d : Nat) : ∀ (i : Nat), i + d = l.length →
    Ev (fun k => parterrelaw19_OccupyTurned.l0 k l most ((l.take i).map turn) l (l.length : Int) (i : Int) r c h w) true := by
  induction d with
  | zero =>
    intro i hi
    have e : (l.take i).map turn = l.map turn := by rw [List.take_of_length_le (by omega)]
    rw [e]
    refine Ev.step (f := fun k => (occupy_Down.f k l r c h w most).bind fun b => (occupy_Right.f k (l.map turn) c r w h most).bind fun d => if b.1 = d.1 then (if (b.2 == d.2) = true then ((occupy_Free.f k l r c h w).bind fun t => (occupy_Free.f k (l.map turn) c r w h).bind fun u => if (t == u) = true then ((parterrelaw19_lives.f k).bind fun t => some t) else some false) else some false) else some false) (fun k => ?_) ?_
    · simp only [parterrelaw19_OccupyTurned.l0]
      rw [if_neg (by omega)]
      simp [occupy_Turn.f]
    · refine Ev.bind (Down_ev l (by omega) r c h w most) (Ev.bind (Right_ev _ (by simp; omega) c r w h most) ?_)
      simp only [downS, if_true, beq_self_eq_true]
      refine Ev.bind (free_ev l (by omega) r c h w) (Ev.bind (free_ev _ (by simp; omega) c r w h) ?_)
      simp only [fr_turn, beq_self_eq_true, if_true]
      exact Ev.bind lives_ev (Ev.now _)
  | succ d ih =>
    intro i hi
    have hlt : i < l.length := by omega
    refine Ev.step (f := fun k => parterrelaw19_OccupyTurned.l0 k l most ((l.take (i + 1)).map turn) l (l.length : Int) ((i + 1 : Nat) : Int) r c h w) (fun k => ?_) (ih (i + 1) (by omega))
    simp only [parterrelaw19_OccupyTurned.l0]
    rw [if_pos (by omega), if_pos (by omega), if_pos (by omega), rd_T_eq l i hlt]
    simp only [occupy_Turn.f, Option.bind_some]
    rw [if_neg (by simp), if_pos (by simp; omega), wrap_in ((i : Int) + 1) (by omega) (by omega)]
    rw [List.take_succ_eq_append_getElem hlt, List.map_append]
    rfl
theorem OccupyTurned : parterrelaw19_OccupyTurned.Pure := by
  intro l r c h w most _ hb _ _ _ _ _ _
  refine Ev.rounds (g := fun k => parterrelaw19_OccupyTurned.f k l r c h w most) ?_
  unfold parterrelaw19_OccupyTurned.f
  by_cases h1 : (l.length : Int) > 100
  · simp only [h1, if_true]; exact Ev.bind lives_ev (Ev.now _)
  simp only [h1, if_false]
  have := turned_from l (by omega) r c h w most l.length 0 (by omega)
  simpa using this
end Go.Proofs.Ytckpmhclngoefaa.Pure
