/- OccupyNear in plain words: where a cell is told to be free it is, and it was free nowhere ahead of that; where there is none it is free nowhere. No condition beyond the statement's own. -/
import Derived.Test.YtckpmhclngoefaaPAx4
import Derived.Test.YtckpmhclngoefaaOcc
namespace Go.Proofs.Ytckpmhclngoefaa.Pure
open Go.RowKit Go.Proofs.Ytckpmhclngoefaa.PA Go.Proofs.YtckpmhclngoefaaW.PrintWords Go.Proofs.Ytckpmhclngoefaa.Evs Go.Proofs.Ytckpmhclngoefaa.Occ
set_option linter.unusedVariables false

theorem lives_ev : Ev (fun k => parterrelaw19_lives.f k) true := by
  unfold parterrelaw19_lives.f
  refine Ev.bind (a := (3, true)) ?_ (by simpa using Ev.now true)
  have h := Right_ev [(⟨0, 1, 1, 2⟩ : S24)] (by simp) 0 0 1 2 9
  have e : rightS [(⟨0, 1, 1, 2⟩ : S24)] 0 0 1 2 9 = (3, true) := by decide +kernel
  rw [e] at h
  exact h
theorem near_from (l : List S24) (hl : l.length ≤ 4398046511104) (r h w most : Int) (hm : most ≤ 10000) (hw1 : 1 ≤ w) (hw2 : w ≤ 20000) (n : Nat) :
    ∀ c : Int, -10000 ≤ c → c ≤ 30000 → room c w most = n → Ev (fun k => parterrelaw19_OccupyNear.l0 k l most (nx l r h w n c).1 (nx l r h w n c).2 r c h w) true := by
  induction n with
  | zero =>
    intro c hc1 hc2 hn
    unfold room at hn
    refine Ev.step (f := fun k => (parterrelaw19_lives.f k).bind fun t => some t) (fun k => ?_) (Ev.bind lives_ev (Ev.now _))
    simp only [parterrelaw19_OccupyNear.l0]
    rw [wrap_in _ (by omega) (by omega), if_neg (by omega)]
    simp [nx]
  | succ n ih =>
    intro c hc1 hc2 hn
    unfold room at hn
    have hz := ih (c + 1) (by omega) (by omega) (by unfold room; omega)
    cases hf : fr l r c h w with
    | true =>
      refine Ev.step (f := fun k => (occupy_Free.f k l r c h w).bind fun t => if t = true then ((parterrelaw19_lives.f k).bind fun t => some t) else (parterrelaw19_OccupyNear.l0 k l most c true r (c + 1) h w)) (fun k => ?_) ?_
      · simp only [parterrelaw19_OccupyNear.l0, nx, hf, if_true]
        rw [wrap_in _ (by omega) (by omega), if_pos (by omega), wrap_in (c + 1) (by omega) (by omega)]
      · refine Ev.bind (free_ev l hl r c h w) ?_
        simp only [hf, if_true]
        exact Ev.bind lives_ev (Ev.now _)
    | false =>
      have e : nx l r h w (n + 1) c = nx l r h w n (c + 1) := by simp [nx, hf]
      rw [e]
      refine Ev.step (f := fun k => (occupy_Free.f k l r c h w).bind fun t => if t = true then (if (nx l r h w n (c + 1)).2 = true then (if (nx l r h w n (c + 1)).1 = c then ((parterrelaw19_lives.f k).bind fun t => some t) else some false) else some false) else (parterrelaw19_OccupyNear.l0 k l most (nx l r h w n (c + 1)).1 (nx l r h w n (c + 1)).2 r (c + 1) h w)) (fun k => ?_) ?_
      · simp only [parterrelaw19_OccupyNear.l0]
        rw [wrap_in _ (by omega) (by omega), if_pos (by omega), wrap_in (c + 1) (by omega) (by omega)]
      · refine Ev.bind (free_ev l hl r c h w) ?_
        simp only [hf, Bool.false_eq_true, if_false]
        exact hz
theorem OccupyNear : parterrelaw19_OccupyNear.Pure := by
  intro l r c h w most _ hb _ _ _ _ _ _
  refine Ev.rounds (g := fun k => parterrelaw19_OccupyNear.f k l r c h w most) ?_
  have live : Ev (fun k => parterrelaw19_OccupyNear.j0 k l most true r c h w) true := by
    refine Ev.step (f := fun k => (parterrelaw19_lives.f k).bind fun t => some t) (fun k => ?_) (Ev.bind lives_ev (Ev.now _))
    simp [parterrelaw19_OccupyNear.j0]
  unfold parterrelaw19_OccupyNear.f
  by_cases h1 : (l.length : Int) > 40
  · simp only [h1, if_true]; exact live
  simp only [h1, if_false]
  by_cases h2 : most > 300
  · simp only [h2, if_true]; exact live
  simp only [h2, if_false, rgood_eq, Option.bind_some]
  by_cases hg : GoodP r c h w
  · simp only [hg, decide_true, if_true]
    by_cases h3 : c < -300
    · simp only [h3, decide_true]; exact live
    · simp only [h3, decide_false]
      have g := hg
      unfold GoodP at g
      refine Ev.step (f := fun k => (occupy_Right.f k l r c h w most).bind fun b => parterrelaw19_OccupyNear.l0 k l most b.1 b.2 r c h w) (fun k => by simp [parterrelaw19_OccupyNear.j0]) (Ev.bind (Right_ev l (by omega) r c h w most) ?_)
      unfold rightS
      by_cases h4 : -10000 ≤ most
      · rw [if_pos ⟨hg, by omega, h4⟩]
        exact near_from l (by omega) r h w most (by omega) (by omega) (by omega) _ c (by omega) (by omega) rfl
      · rw [if_neg (by omega)]
        refine Ev.step (f := fun k => (parterrelaw19_lives.f k).bind fun t => some t) (fun k => ?_) (Ev.bind lives_ev (Ev.now _))
        simp only [parterrelaw19_OccupyNear.l0]
        rw [wrap_in _ (by omega) (by omega), if_neg (by omega)]
        simp
  · simp only [hg, decide_false, Bool.false_eq_true, if_false]; exact live
end Go.Proofs.Ytckpmhclngoefaa.Pure
