/- The document's test of what is handed over (Right), in plain words. No condition beyond what each lemma states. -/
import Derived.Test.YtecccaniopkphaaPAx2
import Derived.Test.YtecccaniopkphaaUpF
namespace Go.Proofs.Ytecccaniopkphaa.Spread
open Go.RowKit Go.Proofs.Ytecccaniopkphaa.PA Go.Proofs.YtecccaniopkphaaW.PrintWords Go.Proofs.YtecccaniopkphaaW.PrintMore Go.Proofs.Ytecccaniopkphaa.Evs
set_option linter.unusedVariables false
set_option linter.unusedSimpArgs false
theorem rright_loop (l : List Int) (hm : l.length ≤ 9223372036854775806) (d : Nat) : ∀ i : Nat, i + d = l.length → Ev (fun k => parterreref23_Right.l0 k l (i : Int)) (rmB (l.drop i)) := by
  induction d with
  | zero =>
    intro i hi
    refine Ev.step (f := fun _ => some _) (fun k => ?_) (Ev.now _)
    simp only [parterreref23_Right.l0]
    rw [if_neg (by omega), List.drop_of_length_le (by omega)]
    rfl
  | succ d ih =>
    intro i hi
    have ha : l.drop i = l[i] :: l.drop (i + 1) := List.drop_eq_getElem_cons (by omega)
    have ec : ((i : Int) + 1) = ((i + 1 : Nat) : Int) := by simp
    have hb : rmB (l.drop i) = (decide (0 ≤ l[i] ∧ l[i] ≤ 1125899906842624) && rmB (l.drop (i + 1))) := by rw [ha]; rfl
    rw [hb]
    by_cases h1 : l[i] < 0
    · have : decide (0 ≤ l[i] ∧ l[i] ≤ 1125899906842624) = false := by simp; omega
      rw [this, Bool.false_and]
      refine Ev.step (f := fun _ => some false) (fun k => ?_) (Ev.now _)
      simp only [parterreref23_Right.l0]
      rw [if_pos (by omega), if_pos (by omega), rd_at l i (by omega), if_pos h1]
    · by_cases h2 : l[i] > 1125899906842624
      · have : decide (0 ≤ l[i] ∧ l[i] ≤ 1125899906842624) = false := by simp; omega
        rw [this, Bool.false_and]
        refine Ev.step (f := fun _ => some false) (fun k => ?_) (Ev.now _)
        simp only [parterreref23_Right.l0]
        rw [if_pos (by omega), if_pos (by omega), rd_at l i (by omega), if_neg h1, if_pos h2]
      · have : decide (0 ≤ l[i] ∧ l[i] ≤ 1125899906842624) = true := by simp; omega
        rw [this, Bool.true_and]
        refine Ev.step (fun k => ?_) (ih (i + 1) (by omega))
        simp only [parterreref23_Right.l0]
        rw [if_pos (by omega), if_pos (by omega), rd_at l i (by omega), if_neg h1, if_neg h2, wrap_in ((i : Int) + 1) (by omega) (by omega), ec]
theorem rright_ev (S : Int) (l : List Int) (hm : l.length ≤ 9223372036854775806) : Ev (fun k => parterreref23_Right.f k S l) (decide (RgP S l.length) && rmB l) := by
  have hbad : Ev (fun k => parterreref23_Right.j0 k l true) false := Ev.step (f := fun _ => some _) (fun k => by simp only [parterreref23_Right.j0, if_true]) (Ev.now _)
  unfold parterreref23_Right.f
  by_cases h1 : S < 0
  · have : decide (RgP S l.length) = false := decide_eq_false (fun h => by have := h.1; omega)
    rw [this, Bool.false_and]
    simp only [h1, if_true]
    exact hbad
  by_cases h2 : S ≥ 1125899906842624
  · have : decide (RgP S l.length) = false := decide_eq_false (fun h => by have := h.2.1; omega)
    rw [this, Bool.false_and]
    simp only [h1, h2, if_true, if_false]
    exact hbad
  by_cases h3 : (l.length : Int) > 65536
  · have : decide (RgP S l.length) = false := decide_eq_false (fun h => by have := h.2.2; omega)
    rw [this, Bool.false_and]
    simp only [h1, h2, h3, if_false, decide_true]
    exact hbad
  have : decide (RgP S l.length) = true := decide_eq_true ⟨by omega, by omega, by omega⟩
  rw [this, Bool.true_and]
  simp only [h1, h2, h3, if_false, decide_false]
  refine Ev.step (f := fun k => parterreref23_Right.l0 k l ((0 : Nat) : Int)) (fun k => by simp only [parterreref23_Right.j0, Bool.false_eq_true, if_false]; rfl) ?_
  simpa using rright_loop l hm l.length 0 (by omega)
theorem right_both {S : Int} {l : List Int} (h : (decide (RgP S l.length) && rmB l) = true) : RgP S l.length ∧ rmB l = true := by simpa using h
end Go.Proofs.Ytecccaniopkphaa.Spread
