/- Where a box begins in its area, in plain words: the code's and the document's. No condition beyond what each lemma states. -/
import Derived.Test.YtbenanokgfphmaaPBx5
import Derived.Test.YtbenanokgfphmaaPBx13
import Derived.Test.YtbenanokgfphmaaEv
namespace Go.Proofs.Ytbenanokgfphmaa.Self
open Go.RowKit Go.Proofs.Ytbenanokgfphmaa.PB Go.Proofs.YtbenanokgfphmaaW.PrintWords Go.Proofs.Ytbenanokgfphmaa.Evs
set_option linter.unusedVariables false
set_option linter.unusedSimpArgs false
def SzP (n : Int) : Prop := 0 ≤ n ∧ n ≤ 68719476736
instance (n : Int) : Decidable (SzP n) := by unfold SzP; infer_instance
def MgP (u : Bool) (n : Int) : Prop := -68719476736 ≤ n ∧ n ≤ 68719476736 ∧ (u = true → n = 0)
instance (u : Bool) (n : Int) : Decidable (MgP u n) := by unfold MgP; infer_instance
theorem is_eq (x : Int) : fixed_Is.f x = some (decide (-68719476736 ≤ x ∧ x ≤ 68719476736)) := by
  unfold fixed_Is.f
  by_cases h : x ≥ -68719476736 <;> simp [h]
theorem ris_eq (x : Int) : parterreref01_Is.f x = some (decide (-68719476736 ≤ x ∧ x ≤ 68719476736)) := is_eq x
theorem size_eq (x : Int) : self_isSize.f x = some (decide (SzP x)) := by
  unfold self_isSize.f SzP
  by_cases h : x ≥ 0
  · rw [if_pos h, is_eq]
    exact congrArg some (decide_eq_decide.mpr ⟨fun g => ⟨h, g.2⟩, fun g => ⟨by omega, g.2⟩⟩)
  · simp [h]
theorem rsize_eq (x : Int) : parterreref29_Size.f x = some (decide (SzP x)) := by
  unfold parterreref29_Size.f SzP
  by_cases h : x ≥ 0 <;> simp [h]
theorem margin_eq (u : Bool) (n : Int) : self_isMargin.f u n = some (decide (MgP u n)) := by
  unfold self_isMargin.f MgP
  rw [is_eq]
  by_cases h : -68719476736 ≤ n ∧ n ≤ 68719476736
  · obtain ⟨h1, h2⟩ := h
    cases u
    · simp [h1, h2]
    · by_cases h0 : n = 0 <;> simp [h1, h2, h0]
  · cases u
    · simp only [Option.bind_some, h, decide_false, Bool.false_eq_true, if_false]
      congr 1
      symm
      rw [decide_eq_false_iff_not]
      exact fun g => h ⟨g.1, g.2.1⟩
    · simp only [Option.bind_some, h, decide_false, Bool.false_eq_true, if_false]
      congr 1
      symm
      rw [decide_eq_false_iff_not]
      exact fun g => h ⟨g.1, g.2.1⟩
theorem rmargin_eq (u : Bool) (n : Int) : parterreref29_margin.f u n = some (decide (MgP u n)) := margin_eq u n
theorem div2_eq (n : Int) (h0 : -4611686018427387904 ≤ n) (h1 : n ≤ 4611686018427387904) : fixed_Div.f n 2 = some (n / 2) := by
  unfold fixed_Div.f
  rw [if_neg (by decide), if_neg (by decide)]
  by_cases hn : 0 ≤ n
  · rw [Int.tdiv_eq_ediv_of_nonneg hn, Int.tmod_eq_emod_of_nonneg hn, wrap_in (n / 2) (by omega) (by omega)]
    simp [show ¬ n < 0 by omega]
  · have e1 : Int.tdiv n 2 = -((-n) / 2) := by
      have := Int.neg_tdiv n 2
      rw [Int.tdiv_eq_ediv_of_nonneg (by omega)] at this
      rw [this]
      simp
    have e2 : Int.tmod n 2 = -((-n) % 2) := by
      have := Int.neg_tmod n 2
      rw [Int.tmod_eq_emod_of_nonneg (by omega)] at this
      rw [this]
      simp
    rw [e1, e2, wrap_in (-((-n) / 2)) (by omega) (by omega), wrap_in (-((-n) / 2) - 1) (by omega) (by omega)]
    by_cases hm : -((-n) % 2) = 0
    · rw [if_pos hm]; congr 1; omega
    · rw [if_neg hm, if_pos (by simp; omega)]; congr 1; omega
/-- Where a box begins. -/
def plS (area size : Int) (au : Bool) (an : Int) (bu : Bool) (bn align : Int) : Int :=
  if SzP area ∧ SzP size ∧ MgP au an ∧ MgP bu bn then
    (if 0 < area - size - an - bn ∧ au = true ∧ bu = true then (area - size - an - bn) / 2 else if 0 < area - size - an - bn ∧ au = true then area - size - an - bn
      else if 0 < area - size - an - bn ∧ bu = true then an else if align = 4 then an + (area - size - an - bn) else if align = 5 then an + (area - size - an - bn) / 2 else an)
  else 0
theorem place_ev (area size : Int) (au : Bool) (an : Int) (bu : Bool) (bn align : Int) : Ev (fun k => self_Place.f k area size au an bu bn align) (plS area size au an bu bn align) := by
  unfold self_Place.f
  simp only [size_eq, margin_eq, Option.bind_some]
  have hbad : ¬ (SzP area ∧ SzP size ∧ MgP au an ∧ MgP bu bn) → Ev (fun k => self_Place.j0 k area size align true au an bu bn) (plS area size au an bu bn align) := by
    intro h
    have : plS area size au an bu bn align = 0 := by unfold plS; rw [if_neg h]
    rw [this]
    exact Ev.step (f := fun _ => some 0) (fun k => by simp [self_Place.j0]) (Ev.now _)
  by_cases h1 : SzP area
  · by_cases h2 : SzP size
    · by_cases h3 : MgP au an
      · simp only [h1, h2, h3, decide_true, if_true]
        by_cases h4 : MgP bu bn
        · simp only [h4, decide_true, Bool.not_true]
          have g1 := h1
          have g2 := h2
          have g3 := h3
          have g4 := h4
          unfold SzP at g1 g2
          unfold MgP at g3 g4
          unfold plS
          rw [if_pos ⟨h1, h2, h3, h4⟩]
          have e : wrap64 (wrap64 (wrap64 (area - size) - an) - bn) = area - size - an - bn := by
            rw [wrap_in (area - size) (by omega) (by omega), wrap_in (area - size - an) (by omega) (by omega), wrap_in (area - size - an - bn) (by omega) (by omega)]
          obtain ⟨fr, hfr, f0, f1⟩ : ∃ fr, area - size - an - bn = fr ∧ -274877906944 ≤ fr ∧ fr ≤ 274877906944 := ⟨_, rfl, by omega, by omega⟩
          rw [hfr] at e
          rw [hfr]
          have hj : ¬ (0 < fr ∧ au = true) → ¬ (0 < fr ∧ bu = true) → Ev (fun k => self_Place.j1 k align fr (fr / 2) au an) (if 0 < fr ∧ au = true ∧ bu = true then fr / 2 else if 0 < fr ∧ au = true then fr else if 0 < fr ∧ bu = true then an else if align = 4 then an + fr else if align = 5 then an + fr / 2 else an) := by
            intro h5 h6
            rw [if_neg (fun h => h5 ⟨h.1, h.2.1⟩), if_neg h5, if_neg h6]
            refine Ev.step (f := fun _ => some _) (fun k => ?_) (Ev.now _)
            simp only [self_Place.j1]
            rw [wrap_in (an + fr) (by omega) (by omega), wrap_in (an + fr / 2) (by omega) (by omega)]
            split
            · rfl
            · split <;> rfl
          have hs : ∀ k, self_Place.j0 (k + 1) area size align false au an bu bn = (if fr > 0 then (if (au && (bu)) = true then (some (fr / 2)) else (if (au && (!bu)) = true then (some fr) else (if (!au && (bu)) = true then (some an) else (self_Place.j1 k align fr (fr / 2) au an)))) else (self_Place.j1 k align fr (fr / 2) au an)) := by
            intro k
            simp only [self_Place.j0]
            rw [if_neg (by decide), e, div2_eq fr (by omega) (by omega)]
            rfl
          refine Ev.step hs ?_
          by_cases h5 : fr > 0
          · have h5' : 0 < fr := h5
            simp only [h5, if_true]
            cases au
            · cases bu
              · have := hj (by simp) (by simp)
                simpa [h5'] using this
              · simp [h5']; exact Ev.now _
            · cases bu
              · simp [h5']; exact Ev.now _
              · simp [h5']; exact Ev.now _
          · simp only [if_neg h5]
            exact hj (fun h => h5 h.1) (fun h => h5 h.1)
        · simp only [h4, decide_false, Bool.not_false]
          exact hbad (fun h => h4 h.2.2.2)
      · simp only [h1, h2, h3, decide_true, decide_false, Bool.false_eq_true, if_true, if_false]
        exact hbad (fun h => h3 h.2.2.1)
    · simp only [h1, h2, decide_true, decide_false, Bool.false_eq_true, if_true, if_false]
      exact hbad (fun h => h2 h.2.1)
  · simp only [h1, decide_false, Bool.false_eq_true, if_false]
    exact hbad (fun h => h1 h.1)
theorem lives_ev : Ev (fun k => parterrelaw29_lives.f k) true := by
  unfold parterrelaw29_lives.f
  have e1 : plS 100 41 false 0 false 0 5 = 29 := by decide +kernel
  have e2 : plS 100 41 false 0 false 0 4 = 59 := by decide +kernel
  have e3 : plS 100 41 true 0 true 0 4 = 29 := by decide +kernel
  have h1 := place_ev 100 41 false 0 false 0 5
  have h2 := place_ev 100 41 false 0 false 0 4
  have h3 := place_ev 100 41 true 0 true 0 4
  rw [e1] at h1
  rw [e2] at h2
  rw [e3] at h3
  refine Ev.bind h1 ?_
  simp only [if_true]
  refine Ev.bind h2 ?_
  simp only [if_true]
  exact Ev.bind h3 (Ev.now _)
end Go.Proofs.Ytbenanokgfphmaa.Self
