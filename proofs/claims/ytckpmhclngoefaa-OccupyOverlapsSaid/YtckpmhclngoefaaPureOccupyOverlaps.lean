/- OccupyOverlaps in plain words: whether two share one, whether one is free, how it is turned, what all have together. No condition beyond the statement's own. -/
import Derived.Test.YtckpmhclngoefaaPCx5
import Derived.Test.YtckpmhclngoefaaOccB
namespace Go.Proofs.Ytckpmhclngoefaa.Pure
open Go.RowKit Go.Proofs.Ytckpmhclngoefaa.PC Go.Proofs.YtckpmhclngoefaaW.PrintWords Go.Proofs.Ytckpmhclngoefaa.Evs Go.Proofs.Ytckpmhclngoefaa.OccB
set_option linter.unusedVariables false
theorem lives_ev : Ev (fun k => parterrelaw19_lives.f k) true := by
  unfold parterrelaw19_lives.f
  refine Ev.bind (a := (3, true)) ?_ (by simpa using Ev.now true)
  have h := Right_ev [(⟨0, 1, 1, 2⟩ : S24)] (by simp) 0 0 1 2 9
  have e : rightS [(⟨0, 1, 1, 2⟩ : S24)] 0 0 1 2 9 = (3, true) := by decide +kernel
  rw [e] at h
  exact h
theorem ovP_sym (x y : S24) : OvP x y.f0 y.f1 y.f2 y.f3 ↔ OvP y x.f0 x.f1 x.f2 x.f3 := by unfold OvP; constructor <;> (rintro ⟨a, b, c, d, e, f⟩; exact ⟨b, a, d, c, f, e⟩)
theorem OccupyOverlaps : parterrelaw19_OccupyOverlaps.Pure := by
  intro l a0 a1 a2 a3 b0 b1 b2 b3 hl1 hl2 hl _ _ _ _ _ _ _ _
  refine Ev.rounds (g := fun k => parterrelaw19_OccupyOverlaps.f k l a0 a1 a2 a3 b0 b1 b2 b3) ?_
  unfold parterrelaw19_OccupyOverlaps.f
  by_cases hlen : (l.length : Int) > 300
  · simp only [hlen, if_true]
    exact Ev.bind lives_ev (Ev.now _)
  simp only [hlen, if_false]
  have e1 : (fun k => occupy_Bounds.f k l) = fun k => occupy_Bounds.l0 k l (l.length : Int) ((0 : Nat) : Int) 0 0 0 0 0 0 0 0 := rfl
  have e2 : (fun k => parterreref19_Bounds.f k l) = fun k => parterreref19_Bounds.l0 k l false ((0 : Nat) : Int) 0 0 0 0 0 0 0 0 := rfl
  refine Ev.bind (a := bdS l false 0 0 0 0) (by rw [e1]; simpa using bounds_from l (by omega) l.length 0 false 0 0 0 0 (by omega) (by simp) (by simp)) ?_
  refine Ev.bind (a := bdS l false 0 0 0 0) (by rw [e2]; simpa using rbounds_from l (by omega) l.length 0 false 0 0 0 0 (by omega)) ?_
  have o1 := overlap_ev ⟨a0, a1, a2, a3⟩ b0 b1 b2 b3
  have o2 := overlap_ev ⟨b0, b1, b2, b3⟩ a0 a1 a2 a3
  have r1 := roverlap_eq ⟨a0, a1, a2, a3⟩ b0 b1 b2 b3
  have es : decide (OvP ⟨b0, b1, b2, b3⟩ a0 a1 a2 a3) = decide (OvP ⟨a0, a1, a2, a3⟩ b0 b1 b2 b3) := decide_eq_decide.mpr (ovP_sym ⟨b0, b1, b2, b3⟩ ⟨a0, a1, a2, a3⟩)
  rw [es] at o2
  refine Ev.bind o1 ?_
  simp only [r1, Option.bind_some, beq_self_eq_true, if_true, Bool.and_self]
  refine Ev.bind o2 ?_
  simp only [beq_self_eq_true, if_true]
  refine Ev.bind (free_ev l (by omega) a0 a1 a2 a3) ?_
  refine Ev.bind (rfree_ev l (by omega) a0 a1 a2 a3) ?_
  simp only [beq_self_eq_true, if_true, occupy_Turn.f, parterreref19_Turn.f, Option.bind_some, Bool.and_self]
  exact Ev.bind lives_ev (Ev.step (f := fun _ => some true) (fun k => by simp only [parterrelaw19_OccupyOverlaps.j0]) (Ev.now _))
end Go.Proofs.Ytckpmhclngoefaa.Pure
