/- The plain law of SpreadAlike: what the printed functions compute answers as the statement says. -/
import Derived.Test.YtecccaniopkphaaPAx7
import Derived.Test.YtecccaniopkphaaSpLives
namespace Go.Proofs.Ytecccaniopkphaa.Pure
open Go.RowKit Go.Proofs.Ytecccaniopkphaa.PA Go.Proofs.YtecccaniopkphaaW.PrintWords Go.Proofs.Ytecccaniopkphaa.Evs Go.Proofs.Ytecccaniopkphaa.Spread
set_option linter.unusedVariables false
set_option linter.unusedSimpArgs false
theorem alike_inner (room l m : List Int) (hl : l.length = room.length) (hmx : room.length ≤ 65536) (i : Nat) (hi : i < room.length) (hbd : l[i] ≤ 1125899906842624 ∧ 0 ≤ l[i])
    (H : ∀ j (hj : j < i), l[i] < room[i] → l[j] < room[j] → l[j] ≤ l[i] + 1 ∧ l[i] ≤ l[j])
    (hc : Ev (fun k => parterrelaw23_SpreadAlike.l0 k room l m (l.length : Int) ((i + 1 : Nat) : Int)) true) (d : Nat) :
    ∀ j : Nat, j + d = i → Ev (fun k => parterrelaw23_SpreadAlike.l1 k room l m (i : Int) (l.length : Int) (i : Int) (i : Int) (j : Int)) true := by
  have eci : ((i : Int) + 1) = ((i + 1 : Nat) : Int) := by simp
  induction d with
  | zero =>
    intro j hj
    refine Ev.step (fun k => ?_) hc
    simp only [parterrelaw23_SpreadAlike.l1]
    rw [if_neg (by omega), wrap_in ((i : Int) + 1) (by omega) (by omega), eci]
  | succ d ih =>
    intro j hj
    have ec : ((j : Int) + 1) = ((j + 1 : Nat) : Int) := by simp
    have hji : j < i := by omega
    have h := H j hji
    refine Ev.step (fun k => ?_) (ih (j + 1) (by omega))
    simp only [parterrelaw23_SpreadAlike.l1]
    rw [if_pos (by omega), if_pos (by omega), if_pos (by omega), if_pos (by omega), rd_at l i (by omega), rd_at room i (by omega), wrap_in ((j : Int) + 1) (by omega) (by omega), ec]
    by_cases h1 : l[i] < room[i]
    · rw [if_pos h1, if_pos (by omega), if_pos (by omega), if_pos (by omega), rd_at l j (by omega), rd_at room j (by omega)]
      by_cases h2 : l[j] < room[j]
      · have := h h1 h2
        rw [if_pos h2, wrap_in (l[i] + 1) (by omega) (by omega), if_neg (by omega), if_neg (by omega)]
      · rw [if_neg h2]
    · rw [if_neg h1]
theorem alike_outer (room l m : List Int) (hl : l.length = room.length) (hm : m.length = room.length) (hmx : room.length ≤ 65536) (hbd : ∀ x ∈ l, 0 ≤ x ∧ x ≤ 1125899906842624)
    (H : ∀ i (hi : i < room.length), ∀ j (hj : j < i), l[i] < room[i] → l[j] < room[j] → l[j] ≤ l[i] + 1 ∧ l[i] ≤ l[j]) (HM : ∀ i (hi : i < room.length), l[i] ≤ m[i]) (d : Nat) :
    ∀ i : Nat, i + d = room.length → Ev (fun k => parterrelaw23_SpreadAlike.l0 k room l m (l.length : Int) (i : Int)) true := by
  induction d with
  | zero =>
    intro i hi
    refine Ev.step (f := fun k => (parterrelaw23_lives.f k).bind fun t => some t) (fun k => ?_) (Ev.bind lives_ev (Ev.now _))
    simp only [parterrelaw23_SpreadAlike.l0]
    rw [if_neg (by omega)]
  | succ d ih =>
    intro i hi
    have hin := alike_inner room l m hl hmx i (by omega) (by have := hbd l[i] (List.getElem_mem _); omega) (H i (by omega)) (ih (i + 1) (by omega)) i 0 (by omega)
    refine Ev.step (fun k => ?_) hin
    have := HM i (by omega)
    simp only [parterrelaw23_SpreadAlike.l0]
    rw [if_pos (by omega), if_pos (by omega), if_pos (by omega), if_pos (by omega), rd_at l i (by omega), rd_at m i (by omega), if_neg (by omega)]
    rfl
theorem SpreadAlike : parterrelaw23_SpreadAlike.Pure := by
  intro S more room hS hmo hl1 hl2 hl3
  refine Ev.rounds ?_
  have hbad : Ev (fun k => parterrelaw23_SpreadAlike.j0 k S more room true) true := Ev.step (f := fun k => (parterrelaw23_lives.f k).bind fun t => some t) (fun k => by simp only [parterrelaw23_SpreadAlike.j0, if_true]) (Ev.bind lives_ev (Ev.now _))
  unfold parterrelaw23_SpreadAlike.f
  by_cases hlen : (room.length : Int) > 200
  · simp only [hlen, if_true]
    exact hbad
  simp only [hlen, if_false]
  refine Ev.bind (rright_ev S room (by omega)) ?_
  cases hR : (decide (RgP S room.length) && rmB room) with
  | false => exact hbad
  | true =>
    obtain ⟨hR, hr⟩ := right_both hR
    obtain ⟨u, hu, u0, u1⟩ : ∃ u, wrap64 (Int.tmod (IntKind.u64.wrap more) 100000) = u ∧ 0 ≤ u ∧ u < 100000 := by
      have h0 : 0 ≤ IntKind.u64.wrap more := by rw [IntKind.wrap_u64]; omega
      rw [Int.tmod_eq_emod_of_nonneg h0]
      refine ⟨_, wrap_in _ (by omega) (by omega), by omega, by omega⟩
    have hS0 := hR.1
    have hS1 := hR.2.1
    obtain ⟨S', hS', h2, h3⟩ : ∃ S', mn 1125899906842623 (wrap64 (S + u)) = S' ∧ S ≤ S' ∧ S' < 1125899906842624 := by
      rw [wrap_in (S + u) (by omega) (by omega)]
      exact ⟨_, rfl, by unfold mn; split <;> omega, by unfold mn; split <;> omega⟩
    obtain ⟨l, hev, hup, _⟩ := Up_ev S room (by omega)
    obtain ⟨m, hev', hup', _⟩ := Up_ev S' room (by omega)
    have hup := hup ⟨hR, hr⟩
    have hup' := hup' ⟨⟨by omega, h3, hR.2.2⟩, hr⟩
    have ll := isup_length hup
    have lm := isup_length hup'
    refine Ev.step (f := fun k => (spread_Up.f k S room).bind fun t195 => ((spread_Up.f k S' room).bind fun t198 => (if (t195.length : Int) = (room.length : Int) then (parterrelaw23_SpreadAlike.j1 k room t195 t198 ((t198.length : Int) != (room.length : Int))) else (parterrelaw23_SpreadAlike.j1 k room t195 t198 true)))) (fun k => by
      simp only [parterrelaw23_SpreadAlike.j0, Bool.not_true, Bool.false_eq_true, if_false]
      rw [hu, hS']) ?_
    refine Ev.bind hev (Ev.bind hev' ?_)
    have hne : ((m.length : Int) != (room.length : Int)) = false := by simp [lm]
    simp only [ll, if_true, hne]
    refine Ev.step (f := fun k => parterrelaw23_SpreadAlike.l0 k room l m (l.length : Int) ((0 : Nat) : Int)) (fun k => by simp only [parterrelaw23_SpreadAlike.j1, Bool.false_eq_true, if_false]; rfl) ?_
    exact alike_outer room l m ll lm (by omega) (isup_bd hup hr) (fun i hi j hj h1 h2 => isup_alike hup j i hj hi (by omega) h1 h2) (fun i hi => isup_more hup hup' h2 i hi (by omega) (by omega)) room.length 0 (by omega)
end Go.Proofs.Ytecccaniopkphaa.Pure
