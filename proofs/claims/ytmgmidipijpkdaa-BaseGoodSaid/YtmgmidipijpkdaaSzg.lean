/- Which sized tracks may be (base.Good and the document's Good), in plain words. No condition. -/
import Derived.Test.YtmgmidipijpkdaaPAx16
import Derived.Test.YtmgmidipijpkdaaPAx17
import Derived.Test.YtmgmidipijpkdaaEv
namespace Go.Proofs.Ytmgmidipijpkdaa.Szg
open Go.RowKit Go.Proofs.Ytmgmidipijpkdaa.PA Go.Proofs.YtmgmidipijpkdaaW.PrintWords Go.Proofs.Ytmgmidipijpkdaa.Evs
set_option linter.unusedVariables false
set_option linter.unusedSimpArgs false
/-- With enough rounds. -/
theorem ev_deep {α : Type} {g : Nat → Option α} {r : α} (D : Nat) (h : ∀ k, g (k + D) = some r) : Ev g r := ⟨D, fun k hk => by have := h (k - D); rwa [Nat.sub_add_cancel hk] at this⟩
/-- May a sized track be? -/
def GdP (f0 f1 f2 : Int) (f3 : Bool) (f4 f5 f6 : Int) : Prop :=
  1 ≤ f0 ∧ f0 ≤ 4 ∧ 1 ≤ f1 ∧ f1 ≤ 5 ∧ 0 ≤ f2 ∧ f2 ≤ 1073741824 ∧ (f1 = 5 ∨ f2 = 0) ∧ 0 ≤ f4 ∧ f4 ≤ 68719476736 ∧ (if f3 = true then f0 = 2 ∧ f1 = 4 else f4 = 0) ∧ 0 ≤ f5 ∧ f5 < 1125899906842624 ∧ f5 ≤ f6 ∧ f6 ≤ 1125899906842624
instance (f0 f1 f2 : Int) (f3 : Bool) (f4 f5 f6 : Int) : Decidable (GdP f0 f1 f2 f3 f4 f5 f6) := by unfold GdP; infer_instance
theorem within_eq (a lo hi : Int) : base_Good_1.f a lo hi = some (decide (lo ≤ a ∧ a ≤ hi)) := by
  unfold base_Good_1.f
  by_cases h : a ≥ lo
  · rw [if_pos h]
    congr 1
    exact decide_eq_decide.mpr ⟨fun h2 => ⟨h, h2⟩, fun h2 => h2.2⟩
  · rw [if_neg h]
    congr 1
    exact (decide_eq_false (fun h2 => h h2.1)).symm
theorem good_ev (f0 f1 f2 : Int) (f3 : Bool) (f4 f5 f6 : Int) : Ev (fun k => base_Good.f k f0 f1 f2 f3 f4 f5 f6) (decide (GdP f0 f1 f2 f3 f4 f5 f6)) := by
  have no : ∀ b : Bool, ¬ GdP f0 f1 f2 f3 f4 f5 f6 → b = false → b = decide (GdP f0 f1 f2 f3 f4 f5 f6) := fun b h hb => by rw [hb, decide_eq_false h]
  have hj3 : ∀ b : Bool, Ev (fun k => base_Good.j3 k b f0 f1 f2 f3 f4 f5 f6) (!b && decide (0 ≤ f5 ∧ f5 < 1125899906842624 ∧ f5 ≤ f6 ∧ f6 ≤ 1125899906842624)) := by
    intro b
    refine Ev.step (f := fun _ => some _) (fun k => ?_) (Ev.now _)
    simp only [base_Good.j3, within_eq, Option.bind_some, decide_eq_true_eq]
    cases b with
    | true => rfl
    | false =>
      simp only [Bool.false_eq_true, if_false, Bool.not_false, Bool.true_and]
      by_cases h : 0 ≤ f5 ∧ f5 ≤ 1125899906842623
      · rw [if_pos h]
        congr 1
        exact decide_eq_decide.mpr ⟨fun h2 => ⟨by omega, by omega, h2.1, h2.2⟩, fun h2 => ⟨h2.2.2.1, h2.2.2.2⟩⟩
      · rw [if_neg h]
        congr 1
        exact (decide_eq_false (fun h2 => h ⟨by omega, by omega⟩)).symm
  have hj2 : ∀ b : Bool, Ev (fun k => base_Good.j2 k b f0 f1 f2 f3 f4 f5 f6) (!b && ((!f3 || (decide (f0 = 2) && decide (f1 = 4) && decide (f2 = 0))) && decide (0 ≤ f5 ∧ f5 < 1125899906842624 ∧ f5 ≤ f6 ∧ f6 ≤ 1125899906842624))) := by
    intro b
    cases b with
    | true => exact Ev.step (f := fun _ => some _) (fun k => by simp [base_Good.j2]) (Ev.now _)
    | false =>
      cases f3 with
      | false => exact Ev.step (fun k => by simp only [base_Good.j2, Bool.false_eq_true, if_false]) (hj3 false)
      | true =>
        have := hj3 (!(f0 == 2) || (!(f1 == 4) || (!(f2 == 0) || (!true))))
        refine Ev.step (f := fun k => base_Good.j3 k (!(f0 == 2) || (!(f1 == 4) || (!(f2 == 0) || (!true)))) f0 f1 f2 true f4 f5 f6) (fun k => by simp only [base_Good.j2, Bool.false_eq_true, if_false, if_true]) ?_
        have e : (!(!(f0 == 2) || (!(f1 == 4) || (!(f2 == 0) || (!true))))) = (decide (f0 = 2) && decide (f1 = 4) && decide (f2 = 0)) := by
          by_cases a : f0 = 2 <;> by_cases b : f1 = 4 <;> by_cases c : f2 = 0 <;> simp [a, b, c]
        rw [e] at this
        simpa using this
  have hj1 : ∀ b : Bool, Ev (fun k => base_Good.j1 k b f0 f1 f2 f3 f4 f5 f6) (!b && (decide (0 ≤ f4 ∧ f4 ≤ 68719476736 ∧ (f3 = true ∨ f4 ≤ 0)) && ((!f3 || (decide (f0 = 2) && decide (f1 = 4) && decide (f2 = 0))) && decide (0 ≤ f5 ∧ f5 < 1125899906842624 ∧ f5 ≤ f6 ∧ f6 ≤ 1125899906842624)))) := by
    intro b
    cases b with
    | true => exact Ev.step (f := fun _ => some _) (fun k => by simp [base_Good.j1]) (Ev.now _)
    | false =>
      by_cases h : 0 ≤ f4 ∧ f4 ≤ 68719476736
      · cases f3 with
        | true =>
          refine Ev.step (f := fun k => base_Good.j2 k false f0 f1 f2 true f4 f5 f6) (fun k => by simp [base_Good.j1, within_eq, h]) ?_
          simpa [h] using hj2 false
        | false =>
          refine Ev.step (f := fun k => base_Good.j2 k (decide (f4 > 0)) f0 f1 f2 false f4 f5 f6) (fun k => by simp [base_Good.j1, within_eq, h]) ?_
          by_cases h0 : f4 > 0
          · have h1 : ¬ f4 ≤ 0 := by omega
            simpa [h, h0, h1] using hj2 true
          · have h1 : f4 ≤ 0 := by omega
            simpa [h, h0, h1] using hj2 false
      · refine Ev.step (f := fun k => base_Good.j2 k true f0 f1 f2 f3 f4 f5 f6) (fun k => by simp only [base_Good.j1, within_eq, Option.bind_some, h, decide_false, Bool.false_eq_true, if_false]) ?_
        have h1 : ¬ (0 ≤ f4 ∧ f4 ≤ 68719476736 ∧ (f3 = true ∨ f4 ≤ 0)) := fun h2 => h ⟨h2.1, h2.2.1⟩
        simpa [h1] using hj2 true
  have hj0 : ∀ b : Bool, Ev (fun k => base_Good.j0 k b f0 f1 f2 f3 f4 f5 f6) (!b && (decide (0 ≤ f2 ∧ f2 ≤ 1073741824 ∧ (f1 = 5 ∨ f2 ≤ 0)) && (decide (0 ≤ f4 ∧ f4 ≤ 68719476736 ∧ (f3 = true ∨ f4 ≤ 0)) && ((!f3 || (decide (f0 = 2) && decide (f1 = 4) && decide (f2 = 0))) && decide (0 ≤ f5 ∧ f5 < 1125899906842624 ∧ f5 ≤ f6 ∧ f6 ≤ 1125899906842624))))) := by
    intro b
    cases b with
    | true => exact Ev.step (f := fun _ => some _) (fun k => by simp [base_Good.j0]) (Ev.now _)
    | false =>
      by_cases h : 0 ≤ f2 ∧ f2 ≤ 1073741824
      · by_cases h5 : f1 = 5
        · refine Ev.step (f := fun k => base_Good.j1 k false f0 f1 f2 f3 f4 f5 f6) (fun k => by simp [base_Good.j0, within_eq, h, h5]) ?_
          have h1 : 0 ≤ f2 ∧ f2 ≤ 1073741824 ∧ (f1 = 5 ∨ f2 ≤ 0) := ⟨h.1, h.2, Or.inl h5⟩
          simp only [h1, decide_true, Bool.not_false, Bool.true_and]
          simpa using hj1 false
        · refine Ev.step (f := fun k => base_Good.j1 k (decide (f2 > 0)) f0 f1 f2 f3 f4 f5 f6) (fun k => by simp [base_Good.j0, within_eq, h, h5]) ?_
          by_cases h0 : f2 > 0
          · have h1 : ¬ (0 ≤ f2 ∧ f2 ≤ 1073741824 ∧ (f1 = 5 ∨ f2 ≤ 0)) := fun h2 => by omega
            simp only [h0, h1, decide_true, decide_false, Bool.false_and, Bool.and_false]
            simpa using hj1 true
          · have h1 : 0 ≤ f2 ∧ f2 ≤ 1073741824 ∧ (f1 = 5 ∨ f2 ≤ 0) := ⟨h.1, h.2, Or.inr (by omega)⟩
            simp only [h0, h1, decide_true, decide_false, Bool.not_false, Bool.true_and]
            simpa using hj1 false
      · refine Ev.step (f := fun k => base_Good.j1 k true f0 f1 f2 f3 f4 f5 f6) (fun k => by simp only [base_Good.j0, within_eq, Option.bind_some, h, decide_false, Bool.false_eq_true, if_false]) ?_
        have h1 : ¬ (0 ≤ f2 ∧ f2 ≤ 1073741824 ∧ (f1 = 5 ∨ f2 ≤ 0)) := fun h2 => h ⟨h2.1, h2.2.1⟩
        simp only [h1, decide_false, Bool.false_and, Bool.and_false]
        simpa using hj1 true
  have efin : (decide (1 ≤ f0 ∧ f0 ≤ 4) && (decide (1 ≤ f1 ∧ f1 ≤ 5) && (decide (0 ≤ f2 ∧ f2 ≤ 1073741824 ∧ (f1 = 5 ∨ f2 ≤ 0)) && (decide (0 ≤ f4 ∧ f4 ≤ 68719476736 ∧ (f3 = true ∨ f4 ≤ 0)) && ((!f3 || (decide (f0 = 2) && decide (f1 = 4) && decide (f2 = 0))) && decide (0 ≤ f5 ∧ f5 < 1125899906842624 ∧ f5 ≤ f6 ∧ f6 ≤ 1125899906842624)))))) = decide (GdP f0 f1 f2 f3 f4 f5 f6) := by
    rw [Bool.eq_iff_iff]
    unfold GdP
    cases f3 <;> simp <;> omega
  rw [← efin]
  unfold base_Good.f
  simp only [within_eq, Option.bind_some, decide_eq_true_eq]
  by_cases h0 : 1 ≤ f0 ∧ f0 ≤ 4
  · simp only [h0, and_self, if_true, decide_true, Bool.true_and]
    have := hj0 (!decide (1 ≤ f1 ∧ f1 ≤ 5))
    rw [Bool.not_not] at this
    exact this
  · simp only [h0, if_false, decide_false, Bool.false_and]
    simpa using hj0 true
theorem rgood_ev (f0 f1 f2 : Int) (f3 : Bool) (f4 f5 f6 : Int) : Ev (fun k => parterreref22_Good.f k f0 f1 f2 f3 f4 f5 f6) (decide (GdP f0 f1 f2 f3 f4 f5 f6)) := by
  have hbad0 : ¬ GdP f0 f1 f2 f3 f4 f5 f6 → Ev (fun k => parterreref22_Good.j0 k true f0 f1 f2 f3 f4 f5 f6) (decide (GdP f0 f1 f2 f3 f4 f5 f6)) := fun h => by
    rw [decide_eq_false h]
    exact Ev.step (f := fun _ => some _) (fun k => by simp only [parterreref22_Good.j0, if_true]) (Ev.now _)
  have hbad1 : ¬ GdP f0 f1 f2 f3 f4 f5 f6 → Ev (fun k => parterreref22_Good.j1 k true f0 f1 f2 f3 f4 f5 f6) (decide (GdP f0 f1 f2 f3 f4 f5 f6)) := fun h => by
    rw [decide_eq_false h]
    exact Ev.step (f := fun _ => some _) (fun k => by simp only [parterreref22_Good.j1, if_true]) (Ev.now _)
  have hj1 : 1 ≤ f0 → f0 ≤ 4 → 1 ≤ f1 → f1 ≤ 5 → 0 ≤ f2 → f2 ≤ 1073741824 → (f1 = 5 ∨ f2 = 0) → Ev (fun k => parterreref22_Good.j1 k false f0 f1 f2 f3 f4 f5 f6) (decide (GdP f0 f1 f2 f3 f4 f5 f6)) := by
    intro a1 a2 a3 a4 a5 a6 a7
    refine Ev.step (f := fun _ => some (decide (GdP f0 f1 f2 f3 f4 f5 f6))) (fun k => ?_) (Ev.now _)
    simp only [parterreref22_Good.j1, Bool.false_eq_true, if_false]
    have hg : GdP f0 f1 f2 f3 f4 f5 f6 ↔ (0 ≤ f4 ∧ f4 ≤ 68719476736 ∧ (if f3 = true then f0 = 2 ∧ f1 = 4 else f4 = 0) ∧ 0 ≤ f5 ∧ f5 < 1125899906842624 ∧ f5 ≤ f6 ∧ f6 ≤ 1125899906842624) := by
      unfold GdP
      exact ⟨fun h => h.2.2.2.2.2.2.2, fun h => ⟨a1, a2, a3, a4, a5, a6, a7, h⟩⟩
    have hge : decide (GdP f0 f1 f2 f3 f4 f5 f6) = decide (0 ≤ f4 ∧ f4 ≤ 68719476736 ∧ (if f3 = true then f0 = 2 ∧ f1 = 4 else f4 = 0) ∧ 0 ≤ f5 ∧ f5 < 1125899906842624 ∧ f5 ≤ f6 ∧ f6 ≤ 1125899906842624) := decide_eq_decide.mpr hg
    rw [hge]
    cases f3 with
    | true =>
      simp only [if_true]
      (repeat' split) <;> simp_all <;> omega
    | false =>
      simp only [Bool.false_eq_true, if_false]
      (repeat' split) <;> simp_all <;> omega
  have hj0 : 1 ≤ f0 → f0 ≤ 4 → 1 ≤ f1 → f1 ≤ 5 → Ev (fun k => parterreref22_Good.j0 k false f0 f1 f2 f3 f4 f5 f6) (decide (GdP f0 f1 f2 f3 f4 f5 f6)) := by
    intro a1 a2 a3 a4
    by_cases b1 : f2 < 0
    · exact Ev.step (fun k => by simp only [parterreref22_Good.j0, Bool.false_eq_true, if_false, b1, if_true]) (hbad1 (fun h => by unfold GdP at h; omega))
    by_cases b2 : f2 > 1073741824
    · exact Ev.step (fun k => by simp only [parterreref22_Good.j0, Bool.false_eq_true, if_false, b1, b2, if_true]) (hbad1 (fun h => by unfold GdP at h; omega))
    by_cases b3 : f1 = 5
    · exact Ev.step (f := fun k => parterreref22_Good.j1 k false f0 f1 f2 f3 f4 f5 f6) (fun k => by simp only [parterreref22_Good.j0, Bool.false_eq_true, if_false, b1, b2, b3, if_true]) (hj1 a1 a2 a3 a4 (by omega) (by omega) (Or.inl b3))
    by_cases b4 : f2 = 0
    · have e : (f2 != 0) = false := by simp [b4]
      exact Ev.step (f := fun k => parterreref22_Good.j1 k false f0 f1 f2 f3 f4 f5 f6) (fun k => by simp only [parterreref22_Good.j0, Bool.false_eq_true, if_false, b1, b2, b3, e]) (hj1 a1 a2 a3 a4 (by omega) (by omega) (Or.inr b4))
    · have e : (f2 != 0) = true := by simp [b4]
      exact Ev.step (f := fun k => parterreref22_Good.j1 k true f0 f1 f2 f3 f4 f5 f6) (fun k => by simp only [parterreref22_Good.j0, Bool.false_eq_true, if_false, b1, b2, b3, e]) (hbad1 (fun h => by unfold GdP at h; omega))
  unfold parterreref22_Good.f
  by_cases c1 : f0 < 1
  · simp only [c1, if_true]
    exact hbad0 (fun h => by unfold GdP at h; omega)
  by_cases c2 : f0 > 4
  · simp only [c1, c2, if_true, if_false]
    exact hbad0 (fun h => by unfold GdP at h; omega)
  by_cases c3 : f1 < 1
  · simp only [c1, c2, c3, if_true, if_false]
    exact hbad0 (fun h => by unfold GdP at h; omega)
  by_cases c4 : f1 > 5
  · simp only [c1, c2, c3, c4, if_false, decide_true]
    exact hbad0 (fun h => by unfold GdP at h; omega)
  · simp only [c1, c2, c3, c4, if_false, decide_false]
    exact hj0 (by omega) (by omega) (by omega) (by omega)
end Go.Proofs.Ytmgmidipijpkdaa.Szg
