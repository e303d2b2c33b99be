/- The plain law of ContentAreas: what the printed functions compute answers as the statement says. -/
import Derived.Test.YtbkohlhonhmhmaaPAx19
import Derived.Test.YtbkohlhonhmhmaaSum
import Derived.Test.YtbkohlhonhmhmaaLivesC
namespace Go.Proofs.Ytbkohlhonhmhmaa.Pure
open Go.RowKit Go.Proofs.Ytbkohlhonhmhmaa.PA Go.Proofs.YtbkohlhonhmhmaaW.PrintWords Go.Proofs.YtbkohlhonhmhmaaW.PrintMore Go.Proofs.Ytbkohlhonhmhmaa.Evs Go.Proofs.Ytbkohlhonhmhmaa.Trk Go.Proofs.Ytbkohlhonhmhmaa.LivesC
set_option linter.unusedVariables false
set_option linter.unusedSimpArgs false
def isB (v : Int) : Bool := decide (-68719476736 ≤ v ∧ v ≤ 68719476736)
theorem is_any (v : Int) : fixed_Is.f v = some (isB v) := by
  unfold fixed_Is.f isB
  by_cases h : v ≥ -68719476736
  · rw [if_pos h]
    exact congrArg some (dec2 _ v h _)
  · rw [if_neg h]
    exact congrArg some (dec2n _ v h _)
theorem ris_any (v : Int) : parterreref01_Is.f v = some (isB v) := by
  unfold parterreref01_Is.f isB
  by_cases h : v ≥ -68719476736
  · rw [if_pos h]
    exact congrArg some (dec2 _ v h _)
  · rw [if_neg h]
    exact congrArg some (dec2n _ v h _)
theorem sumS_ok {lo : Int} {l : List S57} {g : List Bool} {a s : List Int} (h : ¬ (sumS lo l g a s).2 = 2) : TkB lo l g a = true ∧ s.length = l.length ∧ szi s s.length 0 = true := by
  unfold sumS at h
  by_cases hc : TkB lo l g a = true ∧ s.length = l.length ∧ szi s s.length 0 = true
  · exact hc
  · rw [if_neg hc] at h
    exact absurd rfl h
theorem area_both (lo : Int) (l : List S57) (g : List Bool) (a st s : List Int) (x y : Int) : ∃ R, Ev (fun k => content_Area.f k lo l g a st s x y) R ∧ Ev (fun k => parterreref28_Area.f k lo l g a st s x y) R := by
  obtain ⟨hs1, hs2⟩ := sum_both lo l g a s
  have bad : Ev (fun k => content_Area.j0 k st s x y true lo l g a) (0, 0, 2) ∧ Ev (fun k => parterreref28_Area.j0 k st s x y true lo l g a) (0, 0, 2) := by
    constructor
    · refine Ev.step (f := fun _ => some (0, 0, 2)) (fun k => ?_) (Ev.now _)
      simp only [content_Area.j0, if_true]
    · refine Ev.step (f := fun _ => some (0, 0, 2)) (fun k => ?_) (Ev.now _)
      simp only [parterreref28_Area.j0, if_true]
  obtain ⟨n, e, hne⟩ : ∃ n e, sumS lo l g a s = (n, e) := ⟨_, _, rfl⟩
  have hok := sumS_ok (lo := lo) (l := l) (g := g) (a := a) (s := s)
  rw [hne] at hs1 hs2 hok
  simp only at hok
  suffices h : ∃ R, Ev (fun k => if e = 2 then (content_Area.j0 k st s x y true lo l g a) else (if (st.length : Int) = (s.length : Int) then (if x ≥ y then (content_Area.j0 k st s x y true lo l g a) else (if x < lo then (content_Area.j0 k st s x y true lo l g a) else (content_Area.j0 k st s x y (decide (y > (wrap64 (lo + (s.length : Int))))) lo l g a))) else (content_Area.j0 k st s x y true lo l g a))) R ∧ Ev (fun k => if e = 2 then (parterreref28_Area.j0 k st s x y true lo l g a) else (if (st.length : Int) = (s.length : Int) then (if x ≥ y then (parterreref28_Area.j0 k st s x y true lo l g a) else (if x < lo then (parterreref28_Area.j0 k st s x y true lo l g a) else (parterreref28_Area.j0 k st s x y (decide (y > (wrap64 (lo + (s.length : Int))))) lo l g a))) else (parterreref28_Area.j0 k st s x y true lo l g a))) R by
    obtain ⟨R, h1, h2⟩ := h
    exact ⟨R, Ev.bind hs1 h1, Ev.bind hs2 h2⟩
  by_cases he : e = 2
  · simp only [if_pos he]; exact ⟨_, bad⟩
  simp only [if_neg he]
  by_cases hl : (st.length : Int) = (s.length : Int)
  rotate_left
  · simp only [if_neg hl]; exact ⟨_, bad⟩
  simp only [if_pos hl]
  by_cases hxy : x ≥ y
  · simp only [if_pos hxy]; exact ⟨_, bad⟩
  simp only [if_neg hxy]
  by_cases hxl : x < lo
  · simp only [if_pos hxl]; exact ⟨_, bad⟩
  simp only [if_neg hxl]
  obtain ⟨hT, hsl, hsz⟩ := hok he
  obtain ⟨hC, _⟩ := tk_ahead hT
  have c1 := hC.1
  have c2 := hC.2.2.2.1
  have c3 := hC.2.2.2.2
  rw [wrap_in (lo + (s.length : Int)) (by omega) (by omega)]
  by_cases hy : y > lo + (s.length : Int)
  · simp only [decide_eq_true hy]; exact ⟨_, bad⟩
  simp only [decide_eq_false hy]
  have e1 : wrap64 (x - lo) = x - lo := wrap_in _ (by omega) (by omega)
  have e2 : wrap64 (wrap64 (y - lo) - 1) = y - lo - 1 := by rw [wrap_in (y - lo) (by omega) (by omega), wrap_in _ (by omega) (by omega)]
  have e3 : wrap64 (wrap64 (y - 1) - lo) = y - lo - 1 := by rw [wrap_in (y - 1) (by omega) (by omega), wrap_in _ (by omega) (by omega)]; omega
  obtain ⟨v, hv⟩ : ∃ v, wrap64 (wrap64 (rd st (y - lo - 1) + rd s (y - lo - 1)) - rd st (x - lo)) = v := ⟨_, rfl⟩
  refine ⟨if isB v = true then (rd st (x - lo), v, 0) else (0, 0, 10), ?_, ?_⟩
  · refine Ev.step (f := fun _ => some (if isB v = true then (rd st (x - lo), v, 0) else (0, 0, 10))) (fun k => ?_) (Ev.now _)
    simp only [content_Area.j0, Bool.false_eq_true, if_false, e1, e2]
    rw [if_pos (by omega), if_pos (by omega), if_pos (by omega), if_pos (by omega), if_pos (by omega), hv, is_any]
    simp only [Option.bind_some]
    cases isB v <;> rfl
  · refine Ev.step (f := fun _ => some (if isB v = true then (rd st (x - lo), v, 0) else (0, 0, 10))) (fun k => ?_) (Ev.now _)
    simp only [parterreref28_Area.j0, Bool.false_eq_true, if_false, e1, e3]
    rw [if_pos (by omega), if_pos (by omega), if_pos (by omega), if_pos (by omega), if_pos (by omega), hv, ris_any]
    simp only [Option.bind_some]
    cases isB v <;> rfl
theorem areas_loop (lo : Int) (l : List S57) (g : List Bool) (a st s : List Int) (x y : Int) (hm : st.length ≤ 300) (d : Nat) :
    ∀ i : Nat, i + d = st.length → Ev (fun k => parterrelaw28_ContentAreas.l0 k st s x y st (st.length : Int) (i : Int) lo l g a) true := by
  have hlv : Ev (fun k => (parterrelaw28_lives.f k).bind fun t => some t) true := Ev.bind lives_ev (Ev.now _)
  induction d with
  | zero =>
    intro i hi
    obtain ⟨R, h1, h2⟩ := area_both lo l g a st s x y
    refine Ev.step (fun k => by simp only [parterrelaw28_ContentAreas.l0]; rw [if_neg (by omega)]) (Ev.bind h1 (Ev.bind h2 ?_))
    simp only [if_true]
    exact hlv
  | succ d ih =>
    intro i hi
    have ec : ((i : Int) + 1) = ((i + 1 : Nat) : Int) := by simp
    by_cases h1 : rd st (i : Int) > 1125899906842624
    · refine Ev.step (fun k => ?_) hlv
      simp only [parterrelaw28_ContentAreas.l0]
      rw [if_pos (by omega), if_pos (by omega), if_pos (by omega), if_pos h1]
    by_cases h2 : rd st (i : Int) < -1125899906842624
    · refine Ev.step (fun k => ?_) hlv
      simp only [parterrelaw28_ContentAreas.l0]
      rw [if_pos (by omega), if_pos (by omega), if_pos (by omega), if_neg h1, if_pos h2]
    · refine Ev.step (fun k => ?_) (ih (i + 1) (by omega))
      simp only [parterrelaw28_ContentAreas.l0]
      rw [if_pos (by omega), if_pos (by omega), if_pos (by omega), if_neg h1, if_neg h2, wrap_in ((i : Int) + 1) (by omega) (by omega), ec]
theorem ContentAreas : parterrelaw28_ContentAreas.Pure := by
  intro lo l g a st s x y _ _ _ _ _ _ _ _ _ _ _ _ _ _ _
  refine Ev.rounds ?_
  have hbad : Ev (fun k => parterrelaw28_ContentAreas.j0 k st s x y true lo l g a) true := Ev.step (f := fun k => (parterrelaw28_lives.f k).bind fun t => some t) (fun k => by simp only [parterrelaw28_ContentAreas.j0, if_true]) (Ev.bind lives_ev (Ev.now _))
  unfold parterrelaw28_ContentAreas.f
  by_cases h1 : (l.length : Int) > 300
  · simp only [if_pos h1]; exact hbad
  simp only [if_neg h1]
  by_cases h2 : (s.length : Int) > 300
  · simp only [if_pos h2]; exact hbad
  simp only [if_neg h2]
  by_cases h3 : (st.length : Int) > 300
  · simp only [decide_eq_true h3]; exact hbad
  simp only [decide_eq_false h3]
  refine Ev.step (fun k => ?_) (areas_loop lo l g a st s x y (by omega) st.length 0 (by omega))
  simp only [parterrelaw28_ContentAreas.j0, Bool.false_eq_true, if_false]
  rfl
end Go.Proofs.Ytbkohlhonhmhmaa.Pure
