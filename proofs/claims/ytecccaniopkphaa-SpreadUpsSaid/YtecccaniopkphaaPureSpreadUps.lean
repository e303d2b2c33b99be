/- The plain law of SpreadUps: what the printed functions compute answers as the statement says. -/
import Derived.Test.YtecccaniopkphaaPAx14
import Derived.Test.YtecccaniopkphaaSpLives
import Derived.Test.YtecccaniopkphaaRUp
namespace Go.Proofs.Ytecccaniopkphaa.Pure
open Go.RowKit Go.Proofs.Ytecccaniopkphaa.PA Go.Proofs.YtecccaniopkphaaW.PrintWords Go.Proofs.YtecccaniopkphaaW.PrintMore Go.Proofs.Ytecccaniopkphaa.Evs Go.Proofs.Ytecccaniopkphaa.Spread
open Go.Proofs.Ytecccaniopkphaa.Spl (splitS split_ev ints_ev)
open Go.Proofs.Ytecccaniopkphaa.Fix (shareS share_ev rshare_ev rsplit_ev)
set_option linter.unusedVariables false
set_option linter.unusedSimpArgs false
/-- What is given by weights. -/
def byS (S : Int) (l : List Int) : List Int := if RgP S l.length then (if ((shareS (mn S 68719476736) l).length : Int) > 0 then shareS (mn S 68719476736) l else if ((splitS S (l.length : Int)).length : Int) > 0 then splitS S (l.length : Int) else List.replicate l.length 0) else List.replicate l.length 0
theorem by_ev (S : Int) (l : List Int) (hm : l.length ≤ 300) : Ev (fun k => spread_By.f k S l) (byS S l) := by
  unfold spread_By.f byS
  rw [right_eq]
  simp only [Option.bind_some, decide_eq_true_eq]
  have h1 : (0 : Int) ≤ (l.length : Int) := by omega
  have h2 : ((l.length : Int) : Int).toNat ≤ 35184372088832 := by omega
  have h3 : ((l.length : Int) : Int).toNat = l.length := by omega
  have h4 : l.length ≤ 35184372088832 := by omega
  simp only [h1, h2, if_true, h3, h4]
  by_cases hR : RgP S l.length
  · simp only [hR, if_true]
    refine Ev.bind (share_ev _ _) ?_
    by_cases h : ((shareS (mn S 68719476736) l).length : Int) > 0
    · simp only [h, if_true]; exact Ev.now _
    · simp only [h, if_false]
      refine Ev.bind (split_ev _ _ (by have := hR.2.1; omega)) ?_
      by_cases h : ((splitS S (l.length : Int)).length : Int) > 0
      · simp only [h, if_true]; exact Ev.now _
      · simp only [h, if_false]; exact Ev.now _
  · simp only [hR, if_false]; exact Ev.now _
theorem rby_ev (S : Int) (l : List Int) (hm : l.length ≤ 300) : Ev (fun k => parterreref23_By.f k S l) (byS S l) := by
  unfold byS
  have hf : ∀ k, parterreref23_By.f k S l = parterreref23_By.j0 k S l (List.replicate l.length 0) (!decide (RgP S l.length)) := by
    intro k
    unfold parterreref23_By.f
    rw [if_pos (by omega), if_pos (by omega)]
    simp only [Option.bind_some, Int.toNat_natCast]
    by_cases h1 : S < 0
    · have : decide (RgP S l.length) = false := decide_eq_false (fun h => by have := h.1; omega)
      simp only [this, h1, if_true, Bool.not_false]
    by_cases h2 : S ≥ 1125899906842624
    · have : decide (RgP S l.length) = false := decide_eq_false (fun h => by have := h.2.1; omega)
      simp only [this, h1, h2, if_true, if_false, Bool.not_false]
    have h3 : ¬ (l.length : Int) > 65536 := by omega
    have : decide (RgP S l.length) = true := decide_eq_true ⟨by omega, by omega, by omega⟩
    simp only [this, h1, h2, h3, if_false, decide_false, Bool.not_true]
  refine Ev.congr hf ?_
  by_cases hR : RgP S l.length
  · simp only [hR, if_true, decide_true, Bool.not_true]
    refine Ev.step (f := fun k => (parterreref01_Share.f k (mn S 68719476736) l).bind fun t318 => (if (t318.length : Int) > 0 then (some t318) else ((parterreref01_Split.f k S (l.length : Int)).bind fun t321 => (if (t321.length : Int) > 0 then (some t321) else (some (List.replicate l.length 0)))))) (fun k => by simp only [parterreref23_By.j0, Bool.false_eq_true, if_false]) ?_
    refine Ev.bind (rshare_ev _ _ (by omega)) ?_
    by_cases h : ((shareS (mn S 68719476736) l).length : Int) > 0
    · simp only [h, if_true]; exact Ev.now _
    · simp only [h, if_false]
      refine Ev.bind (rsplit_ev _ _ (by have := hR.2.1; omega)) ?_
      by_cases h : ((splitS S (l.length : Int)).length : Int) > 0
      · simp only [h, if_true]; exact Ev.now _
      · simp only [h, if_false]; exact Ev.now _
  · simp only [hR, if_false, decide_false, Bool.not_false]
    exact Ev.step (f := fun _ => some _) (fun k => by simp only [parterreref23_By.j0, if_true]) (Ev.now _)
theorem byS_length (S : Int) (l : List Int) (hm : l.length ≤ 300) : (byS S l).length ≤ 9223372036854775806 := by
  unfold byS
  have h1 : (shareS (mn S 68719476736) l).length ≤ l.length := by
    unfold shareS
    split
    · simp
    · rw [Go.Proofs.Ytecccaniopkphaa.Fix.shr_length]; exact Nat.le_refl _
  have h2 := splitS_length S (l.length : Int)
  split
  · split
    · omega
    · split
      · omega
      · simp; omega
  · simp; omega
theorem SpreadUps : parterrelaw23_SpreadUps.Pure := by
  intro S room bs hS hl1 hl2 hl3 hl4 hl5 hl6
  refine Ev.rounds ?_
  have hbad : Ev (fun k => parterrelaw23_SpreadUps.j0 k S room bs true) true := Ev.step (f := fun k => (parterrelaw23_lives.f k).bind fun t => some t) (fun k => by simp only [parterrelaw23_SpreadUps.j0, if_true]) (Ev.bind lives_ev (Ev.now _))
  unfold parterrelaw23_SpreadUps.f
  by_cases hlen : (room.length : Int) > 300
  · simp only [hlen, if_true]
    exact hbad
  simp only [hlen, if_false]
  by_cases hlb : (bs.length : Int) > 300
  · simp only [hlb, decide_true]
    exact hbad
  simp only [hlb, decide_false]
  have hm : room.length ≤ 300 := by omega
  have hup : ∃ u, Ev (fun k => spread_Up.f k S room) u ∧ Ev (fun k => parterreref23_Up.f k S room) u ∧ u.length ≤ 9223372036854775806 := by
    obtain ⟨out, hev, h1, h2⟩ := Up_ev S room (by omega)
    obtain ⟨h3, h4⟩ := RUp_ev S room (by omega)
    by_cases h : RgP S room.length ∧ rmB room = true
    · obtain ⟨out', h5, h6⟩ := h3 h
      obtain rfl := isup_unique h6 (h1 h)
      have := isup_length h6
      exact ⟨_, hev, h5, by omega⟩
    · refine ⟨_, hev, ?_, ?_⟩
      · rw [h2 h]; exact h4 h
      · rw [h2 h]; simp; omega
  have hfill : ∃ u, Ev (fun k => spread_Fill.f k S room bs) u ∧ Ev (fun k => parterreref23_Fill.f k S room bs) u ∧ u.length ≤ 9223372036854775806 := by
    by_cases h : RgP S room.length ∧ rmB room = true ∧ bs.length = room.length
    · obtain ⟨out, hev, h1, h2⟩ := Up_ev S room (by omega)
      have hu := h1 ⟨h.1, h.2.1⟩
      have := isup_length hu
      exact ⟨_, Fill_ev S room out bs h.1 h.2.1 h.2.2 hu, RFill_ev S room out bs h.1 h.2.1 h.2.2 hu, by rw [addp_length]; omega⟩
    · exact ⟨_, Fill_no S room bs (by omega) h, RFill_no S room bs (by omega) h, by simp; omega⟩
  obtain ⟨u, u1, u2, u3⟩ := hup
  obtain ⟨v, v1, v2, v3⟩ := hfill
  refine Ev.step (f := fun k => (spread_Up.f k S room).bind fun t325 => ((parterreref23_Up.f k S room).bind fun t328 => ((parterreref01_Ints.f k t325 t328).bind fun t331 => (if t331 = true then ((spread_Fill.f k S room bs).bind fun t332 => ((parterreref23_Fill.f k S room bs).bind fun t335 => ((parterreref01_Ints.f k t332 t335).bind fun t338 => (if t338 = true then ((spread_By.f k S room).bind fun t339 => ((parterreref23_By.f k S room).bind fun t342 => ((parterreref01_Ints.f k t339 t342).bind fun t345 => (if t345 = true then ((parterrelaw23_lives.f k).bind fun t346 => (some t346)) else (some false))))) else (some false))))) else (some false))))) (fun k => by simp only [parterrelaw23_SpreadUps.j0, Bool.false_eq_true, if_false]) ?_
  refine Ev.bind u1 (Ev.bind u2 (Ev.bind (ints_ev _ _ u3) ?_))
  simp only [decide_true, if_true]
  refine Ev.bind v1 (Ev.bind v2 (Ev.bind (ints_ev _ _ v3) ?_))
  simp only [decide_true, if_true]
  refine Ev.bind (by_ev S room hm) (Ev.bind (rby_ev S room hm) (Ev.bind (ints_ev _ _ (byS_length S room hm)) ?_))
  simp only [decide_true, if_true]
  exact Ev.bind lives_ev (Ev.now _)
end Go.Proofs.Ytecccaniopkphaa.Pure
