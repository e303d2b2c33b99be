/- The plain law of SelfFits: what the printed functions compute answers as the statement says. -/
import Derived.Test.YtbenanokgfphmaaPBx16
import Derived.Test.YtbenanokgfphmaaUsed
namespace Go.Proofs.Ytbenanokgfphmaa.Pure
open Go.RowKit Go.Proofs.Ytbenanokgfphmaa.PB Go.Proofs.YtbenanokgfphmaaW.PrintWords Go.Proofs.YtbenanokgfphmaaW.PrintMore Go.Proofs.Ytbenanokgfphmaa.Evs Go.Proofs.Ytbenanokgfphmaa.Self
set_option linter.unusedVariables false
set_option linter.unusedSimpArgs false
theorem ev_ite {α : Type} {c : Prop} [Decidable c] {g f : Nat → Option α} {r : α} (h1 : c → Ev g r) (h2 : ¬ c → Ev f r) : Ev (fun k => if c then g k else f k) r := by
  by_cases h : c
  · simp only [h, if_true]; exact h1 h
  · simp only [h, if_false]; exact h2 h
theorem pl_within {area size : Int} {au : Bool} {an : Int} {bu : Bool} {bn : Int} (align : Int) (ha : SzP area) (hs : SzP size) (h1 : MgP au an) (h2 : MgP bu bn) (hf : size ≤ area - an - bn) :
    an ≤ plS area size au an bu bn align ∧ plS area size au an bu bn align + size + bn ≤ area ∧ plS area size au an bu bn align ≤ 206158430208 := by
  have e1 := ha.1
  have e2 := ha.2
  have e3 := hs.1
  have e4 := mg_in h1
  have e5 := mg_in h2
  have e6 := h1.2.2
  have e7 := h2.2.2
  unfold plS
  rw [if_pos ⟨ha, hs, h1, h2⟩]
  cases au <;> cases bu <;> simp at e6 e7 ⊢ <;> (repeat' split) <;> omega
theorem SelfFits : parterrelaw29_SelfFits.Pure := by
  intro area size au an bu bn c0 c1 align ha hs han hbn hc0 hc1 hal
  refine Ev.rounds ?_
  have hli : Ev (fun k => (parterrelaw29_lives.f k).bind fun t => some t) true := Ev.bind lives_ev (Ev.now _)
  have hj0t : Ev (fun k => parterrelaw29_SelfFits.j0 k area size align true au an bu bn c0 c1) true := Ev.step (fun k => by simp only [parterrelaw29_SelfFits.j0, if_true]) hli
  have hmain : SzP area → MgP au an → MgP bu bn → SzP c0 → SzP c1 → Ev (fun k => parterrelaw29_SelfFits.j0 k area size align false au an bu bn c0 c1) true := by
    intro h1 h2 h3 h4 h5
    have e1 := h1.1
    have e2 := h1.2
    have e4 := mg_in h2
    have e5 := mg_in h3
    have ew : wrap64 (wrap64 (area - an) - bn) = area - an - bn := by rw [wrap_in (area - an) (by omega) (by omega), wrap_in (area - an - bn) (by omega) (by omega)]
    have hj3t : Ev (fun k => parterrelaw29_SelfFits.j3 k area size align true au an bu bn) true := Ev.step (fun k => by simp only [parterrelaw29_SelfFits.j3, if_true]) hli
    have hj2 : Ev (fun k => parterrelaw29_SelfFits.j2 k area size align au an bu bn) true := by
      by_cases hz : SzP size
      · refine Ev.step (f := fun k => parterrelaw29_SelfFits.j3 k area size align (decide (size > area - an - bn)) au an bu bn) (fun k => by simp only [parterrelaw29_SelfFits.j2, rsize_eq, hz, decide_true, Option.bind_some, if_true, ew]) ?_
        by_cases hg : size > area - an - bn
        · simp only [hg, decide_true]; exact hj3t
        · simp only [hg, decide_false]
          obtain ⟨p1, p2, p3⟩ := pl_within align h1 hz h2 h3 (by omega : size ≤ area - an - bn)
          refine Ev.step (f := fun k => (self_Place.f k area size au an bu bn align).bind fun t322 => (if t322 ≥ an then (if (wrap64 ((wrap64 (t322 + size)) + bn)) ≤ area then ((parterrelaw29_lives.f k).bind fun t323 => (some t323)) else (some false)) else (some false))) (fun k => by simp only [parterrelaw29_SelfFits.j3, Bool.false_eq_true, if_false]) ?_
          refine Ev.bind (place_ev area size au an bu bn align) ?_
          have z1 := hz.1
          have z2 := hz.2
          have w1 : wrap64 (wrap64 (plS area size au an bu bn align + size) + bn) = plS area size au an bu bn align + size + bn := by rw [wrap_in (plS area size au an bu bn align + size) (by omega) (by omega), wrap_in (plS area size au an bu bn align + size + bn) (by omega) (by omega)]
          have p1' : plS area size au an bu bn align ≥ an := p1
          simp only [w1, p1', p2, if_true]
          exact hli
      · refine Ev.step (f := fun k => parterrelaw29_SelfFits.j3 k area size align true au an bu bn) (fun k => by simp only [parterrelaw29_SelfFits.j2, rsize_eq, hz, decide_false, Option.bind_some, Bool.false_eq_true, if_false]) hj3t
    have hj1f : Ev (fun k => parterrelaw29_SelfFits.j1 k area size align (area - an - bn) false au an bu bn c0 c1 1 0 7 0) true := Ev.step (fun k => by simp only [parterrelaw29_SelfFits.j1, Bool.false_eq_true, if_false]) hj2
    have hj1t : au = false → bu = false → 0 ≤ area - an - bn → area - an - bn ≤ 68719476736 → Ev (fun k => parterrelaw29_SelfFits.j1 k area size align (area - an - bn) true au an bu bn c0 c1 1 0 7 0) true := by
      intro ea eb r0 r1
      have hz : SzP (area - an - bn) := ⟨r0, r1⟩
      have hcc : SzP c0 ∧ SzP c1 := ⟨h4, h5⟩
      have hl1 : limS 1 0 area true c0 c1 = (0, false, 0) := by
        unfold limS resS
        simp [h4, h5, h1, mx]
      have hl7 : limS 7 0 area true c0 c1 = (0, false, 0) := by
        unfold limS resS
        simp [h4, h5, h1, mx]
      have hin : inS area au an bu bn = area - an - bn := by
        unfold inS
        rw [if_pos ⟨h1, h2, h3⟩]
        unfold mx mn
        (repeat' split) <;> omega
      have hus : usS 1 0 1 0 7 0 area au an bu bn c0 c1 true = (area - an - bn, 0) := by
        unfold usS
        rw [if_pos ⟨h1, h2, h3, hcc⟩, hl1, hin]
        subst ea eb
        simp [clS, hl1, hl7, hz]
      have hpl : plS area (area - an - bn) au an bu bn align = an := by
        unfold plS
        rw [if_pos ⟨h1, hz, h2, h3⟩]
        have : area - (area - an - bn) - an - bn = 0 := by omega
        rw [this]
        simp
      refine Ev.step (f := fun k => (self_Used.f k 1 0 1 0 7 0 area au an bu bn c0 c1 true).bind fun bt317 => (if bt317.2 = 0 then (if bt317.1 = (area - an - bn) then ((self_Place.f k area bt317.1 au an bu bn align).bind fun t319 => (if t319 = an then (parterrelaw29_SelfFits.j2 k area size align au an bu bn) else (some false))) else (some false)) else (some false))) (fun k => by simp only [parterrelaw29_SelfFits.j1, if_true]) ?_
      refine Ev.bind (used_ev (by decide) (by decide) (by decide) ha au an bu bn c0 c1 true) ?_
      rw [hus]
      simp only [if_true]
      refine Ev.bind (place_ev area (area - an - bn) au an bu bn align) ?_
      simp only [hpl, if_true]
      exact hj2
    refine Ev.step (f := fun k => if area - an - bn ≥ 0 then (if area - an - bn ≤ 68719476736 then (if au = true then (parterrelaw29_SelfFits.j1 k area size align (area - an - bn) false au an bu bn c0 c1 1 0 7 0) else (parterrelaw29_SelfFits.j1 k area size align (area - an - bn) (!bu) au an bu bn c0 c1 1 0 7 0)) else (parterrelaw29_SelfFits.j1 k area size align (area - an - bn) false au an bu bn c0 c1 1 0 7 0)) else (parterrelaw29_SelfFits.j1 k area size align (area - an - bn) false au an bu bn c0 c1 1 0 7 0)) (fun k => by simp only [parterrelaw29_SelfFits.j0, Bool.false_eq_true, if_false, ew]) ?_
    refine ev_ite (fun g1 => ev_ite (fun g2 => ev_ite (fun g3 => hj1f) (fun g3 => ?_)) (fun _ => hj1f)) (fun _ => hj1f)
    cases bu with
    | true => exact hj1f
    | false => exact hj1t (by simpa using g3) rfl g1 g2
  unfold parterrelaw29_SelfFits.f
  simp only [rsize_eq, Option.bind_some, decide_eq_true_eq]
  have hlast : SzP area → MgP au an → MgP bu bn → SzP c0 → Ev (fun k => parterrelaw29_SelfFits.j0 k area size align (!decide (SzP c1)) au an bu bn c0 c1) true := by
    intro h1 h2 h3 h4
    by_cases h5 : SzP c1
    · simp only [h5, decide_true, Bool.not_true]; exact hmain h1 h2 h3 h4 h5
    · simp only [h5, decide_false, Bool.not_false]; exact hj0t
  repeat' (first | exact hj0t | refine ev_ite (fun _ => ?_) (fun _ => ?_))
  all_goals (first | exact hj0t | exact hlast (by assumption) ⟨by omega, by omega, fun h => by first | assumption | contradiction⟩ ⟨by omega, by omega, fun h => by first | assumption | contradiction⟩ (by assumption))
end Go.Proofs.Ytbenanokgfphmaa.Pure
