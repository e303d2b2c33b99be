/- The chapter's examples hold. No condition. -/
import Derived.Test.YtecccaniopkphaaPAx5
import Derived.Test.YtecccaniopkphaaFill
namespace Go.Proofs.Ytecccaniopkphaa.Spread
open Go.RowKit Go.Proofs.Ytecccaniopkphaa.PA Go.Proofs.YtecccaniopkphaaW.PrintWords Go.Proofs.Ytecccaniopkphaa.Evs
open Go.Proofs.Ytecccaniopkphaa.Spl (splitS split_ev spl spl_tot ints_ev)
set_option linter.unusedVariables false
theorem isup_10 : IsUp 10 [2, 100, 100] [2, 4, 4] := ⟨4, 0, by decide, by decide, by decide, Or.inl (by decide), by decide⟩
theorem isup_11 : IsUp 11 [2, 100, 100] [2, 5, 4] := ⟨4, 1, by decide, by decide, by decide, Or.inl (by decide), by decide⟩
theorem isup_23 : IsUp 10 [2, 3] [2, 3] := ⟨3, 5, by decide, by decide, by decide, Or.inr (by decide), by decide⟩
theorem up_is {S : Int} {room out : List Int} (hR : RgP S room.length) (hr : rmB room = true) (h : IsUp S room out) : Ev (fun k => spread_Up.f k S room) out := by
  obtain ⟨out', hev, h1, _⟩ := Up_ev S room (by have := hR.2.2; omega)
  rwa [isup_unique (h1 ⟨hR, hr⟩) h] at hev
theorem lives_ev : Ev (fun k => parterrelaw23_lives.f k) true := by
  unfold parterrelaw23_lives.f
  refine Ev.bind (up_is (by decide) (by decide +kernel) isup_10) ?_
  refine Ev.bind (ints_ev _ _ (by decide)) ?_
  simp only [decide_true, if_true]
  refine Ev.bind (up_is (by decide) (by decide +kernel) isup_11) ?_
  refine Ev.bind (ints_ev _ _ (by decide)) ?_
  simp only [decide_true, if_true]
  refine Ev.bind (Fill_ev 10 [2, 3] [2, 3] [true, false] (by decide) (by decide +kernel) rfl isup_23) ?_
  refine Ev.bind (ints_ev _ _ (by decide +kernel)) ?_
  have : decide (addp [2, 3] [true, false] (prt 10 [2, 3] [true, false]) = [7, 3]) = true := by decide +kernel
  rw [this]
  exact Ev.now _
end Go.Proofs.Ytecccaniopkphaa.Spread
