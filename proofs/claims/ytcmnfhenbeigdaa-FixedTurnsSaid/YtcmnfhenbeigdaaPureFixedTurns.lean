/- The plain law of FixedTurns: what the printed functions compute answers as the statement says. -/
import Derived.Test.YtcmnfhenbeigdaaPAx9
import Derived.Test.YtcmnfhenbeigdaaFix
namespace Go.Proofs.Ytcmnfhenbeigdaa.Pure
open Go.RowKit Go.Proofs.Ytcmnfhenbeigdaa.PA Go.Proofs.YtcmnfhenbeigdaaW.PrintWords Go.Proofs.Ytcmnfhenbeigdaa.Evs Go.Proofs.Ytcmnfhenbeigdaa.Fix
set_option linter.unusedVariables false
set_option linter.unusedSimpArgs false
theorem is_eq (x : Int) : fixed_Is.f x = some (decide (-68719476736 ≤ x ∧ x ≤ 68719476736)) := by
  unfold fixed_Is.f
  by_cases h : x ≥ -68719476736
  · simp [h]
  · simp [h]
theorem within_ev (a b x : Int) : Ev (fun k => fixed_within.f k a b x) (if ¬ (-68719476736 ≤ a ∧ a ≤ 68719476736) ∨ ¬ (-68719476736 ≤ b ∧ b ≤ 68719476736) then (0, 2) else if -68719476736 ≤ x ∧ x ≤ 68719476736 then (x, 0) else (0, 10)) := by
  unfold fixed_within.f
  simp only [is_eq, Option.bind_some]
  by_cases h1 : -68719476736 ≤ a ∧ a ≤ 68719476736
  · simp only [h1, decide_true, if_true]
    refine Ev.step (f := fun _ => some _) (fun k => ?_) (Ev.now _)
    simp only [fixed_within.j0, is_eq, Option.bind_some]
    by_cases h2 : -68719476736 ≤ b ∧ b ≤ 68719476736
    · by_cases h3 : -68719476736 ≤ x ∧ x ≤ 68719476736
      · simp [h2, h3]
      · simp [h2, h3]
    · simp [h2]
  · simp only [h1, decide_false]
    refine Ev.step (f := fun _ => some _) (fun k => ?_) (Ev.now _)
    simp [fixed_within.j0]
/-- What a quotient and what is left of it are. -/
theorem divmod (x y : Int) (hx : (Lit.int .i64 x).wf = true) (hy : (Lit.int .i64 y).wf = true) (hy0 : ¬ y = 0) :
    ∃ q m, fixed_Div.f x y = some q ∧ fixed_Mod.f x y = some m ∧ wrap64 (wrap64 (q * y) + m) = x ∧ (0 < y → 0 ≤ m ∧ m < y) ∧ (y < 0 → m ≤ 0 ∧ y < m) := by
  have bx := wf_in hx
  have b_y := wf_in hy
  have fin : ∀ q m' : Int, fixed_Div.f x y = some q → (q * y + m' = x ∨ (q = wrap64 (-x) ∧ y = -1 ∧ m' = 0)) → (0 < y → 0 ≤ m' ∧ m' < y) → (y < 0 → m' ≤ 0 ∧ y < m') → ∃ q m, fixed_Div.f x y = some q ∧ fixed_Mod.f x y = some m ∧ wrap64 (wrap64 (q * y) + m) = x ∧ (0 < y → 0 ≤ m ∧ m < y) ∧ (y < 0 → m ≤ 0 ∧ y < m) := by
    intro q m' h1 h2 h3 h4
    have hm : wrap64 (x - wrap64 (q * y)) = m' := by
      rcases h2 with h2 | ⟨h2, h5, h6⟩
      · have hr : -9223372036854775808 ≤ m' ∧ m' ≤ 9223372036854775807 := by omega
        unfold wrap64
        omega
      · rw [h2, h5, h6]
        unfold wrap64
        omega
    refine ⟨q, m', h1, ?_, ?_, h3, h4⟩
    · unfold fixed_Mod.f
      rw [if_neg hy0, h1]
      simp [hm]
    · rw [← hm]
      unfold wrap64
      omega
  have hd := Int.mul_tdiv_add_tmod x y
  have hsl : 0 ≤ x → 0 ≤ Int.tmod x y := fun h => Int.tmod_nonneg y h
  have hsn : x ≤ 0 → Int.tmod x y ≤ 0 := fun h => by
    have := Int.neg_tmod x y
    have h2 := Int.tmod_nonneg y (a := -x) (by omega)
    omega
  have hlt : 0 < y → Int.tmod x y < y ∧ -y < Int.tmod x y := fun h => by
    have h1 := Int.tmod_lt_of_pos x h
    have h2 := Int.tmod_lt_of_pos (-x) h
    rw [Int.neg_tmod] at h2
    omega
  have hgt : y < 0 → y < Int.tmod x y ∧ Int.tmod x y < -y := fun h => by
    have h1 := Int.tmod_lt_of_pos x (b := -y) (by omega)
    have h2 := Int.tmod_lt_of_pos (-x) (b := -y) (by omega)
    rw [Int.neg_tmod] at h2
    rw [Int.tmod_neg] at h1 h2
    omega
  generalize hT : Int.tdiv x y = T at *
  generalize hM : Int.tmod x y = M at *
  rw [Int.mul_comm] at hd
  have hq : ¬ y = -1 → -9223372036854775808 ≤ T ∧ T ≤ 9223372036854775807 := by
    intro h1
    have hn : T.natAbs ≤ x.natAbs := by rw [← hT, Int.natAbs_tdiv]; exact Nat.div_le_self _ _
    by_cases hx0 : x = -9223372036854775808
    · by_cases hy1 : y = 1
      · subst hy1; rw [Int.tdiv_one] at hT; omega
      · have : T.natAbs ≤ x.natAbs / 2 := by
          rw [← hT, Int.natAbs_tdiv]
          exact Nat.div_le_div_left (by omega) (by omega)
        omega
    · omega
  by_cases hy1 : y = -1
  · refine fin (wrap64 (-x)) 0 ?_ (Or.inr ⟨rfl, hy1, rfl⟩) (by omega) (by omega)
    unfold fixed_Div.f
    rw [if_neg hy0, if_pos hy1]
  obtain ⟨t1, t2⟩ := hq hy1
  by_cases hM0 : M = 0
  · refine fin T 0 ?_ (Or.inl (by omega)) (by omega) (by omega)
    unfold fixed_Div.f
    rw [if_neg hy0, if_neg hy1, hM, if_pos hM0, hT, wrap_in T t1 t2]
  by_cases hs : (decide (x < 0) != decide (y < 0)) = true
  · have hx1 : (x < 0 ∧ ¬ y < 0) ∨ (¬ x < 0 ∧ y < 0) := by
      by_cases a : x < 0 <;> by_cases b : y < 0 <;> simp_all
    have hTm : -9223372036854775808 ≤ T - 1 := by
      by_cases h : T = -9223372036854775808
      · exfalso
        have hn : T.natAbs ≤ x.natAbs := by rw [← hT, Int.natAbs_tdiv]; exact Nat.div_le_self _ _
        have hx0 : x = -9223372036854775808 := by omega
        have : ¬ y = 1 := by
          intro h1
          rw [h1, Int.tmod_one] at hM
          omega
        have : T.natAbs ≤ x.natAbs / 2 := by
          rw [← hT, Int.natAbs_tdiv]
          exact Nat.div_le_div_left (by omega) (by omega)
        omega
      · omega
    refine fin (T - 1) (M + y) ?_ (Or.inl ?_) (by omega) (by omega)
    · unfold fixed_Div.f
      rw [if_neg hy0, if_neg hy1, hM, if_neg hM0, if_pos hs, hT, wrap_in T t1 t2, wrap_in (T - 1) (by omega) (by omega)]
    · rw [Int.sub_mul]; omega
  · have hx1 : (x < 0 ∧ y < 0) ∨ (¬ x < 0 ∧ ¬ y < 0) := by
      by_cases a : x < 0 <;> by_cases b : y < 0 <;> simp_all
    refine fin T M ?_ (Or.inl hd) (by omega) (by omega)
    unfold fixed_Div.f
    rw [if_neg hy0, if_neg hy1, hM, if_neg hM0, if_neg hs, hT, wrap_in T t1 t2]
theorem turns_j0 (x y : Int) (hx : (Lit.int .i64 x).wf = true) (hy : (Lit.int .i64 y).wf = true) : Ev (fun k => parterrelaw01_FixedTurns.j0 k x y) true := by
  refine Ev.step (f := fun k => (parterrelaw01_lives.f k).bind fun t => some t) (fun k => ?_) (Ev.bind lives_ev (Ev.now _))
  simp only [parterrelaw01_FixedTurns.j0]
  by_cases hy0 : y = 0
  · have : fixed_Div.f x y = some 0 := by unfold fixed_Div.f; rw [if_pos hy0]
    rw [if_pos hy0, this]
    rfl
  · obtain ⟨q, m, h1, h2, h3, h4, h5⟩ := divmod x y hx hy hy0
    rw [if_neg hy0, h1, h2]
    simp only [Option.bind_some]
    rw [if_pos h3]
    by_cases hp : y > 0
    · rw [if_pos hp, if_pos (h4 hp).1, if_pos (h4 hp).2]
    · rw [if_neg hp, if_pos (by omega), if_pos (h5 (by omega)).1, if_pos (h5 (by omega)).2]
theorem FixedTurns : parterrelaw01_FixedTurns.Pure := by
  intro a b ha hb
  have ba := wf_in ha
  have b_b := wf_in hb
  refine Ev.rounds ?_
  unfold parterrelaw01_FixedTurns.f fixed_Add.f fixed_Sub.f
  refine Ev.bind (Ev.bind (within_ev a b (wrap64 (a + b))) (Ev.now _)) ?_
  by_cases h : ¬ (-68719476736 ≤ a ∧ a ≤ 68719476736) ∨ ¬ (-68719476736 ≤ b ∧ b ≤ 68719476736)
  · simp only [h, if_true]
    exact turns_j0 a b ha hb
  have e : wrap64 (a + b) = a + b := wrap_in _ (by omega) (by omega)
  simp only [h, if_false, e]
  by_cases h2 : -68719476736 ≤ a + b ∧ a + b ≤ 68719476736
  · simp only [h2, and_self, if_true]
    refine Ev.bind (Ev.bind (within_ev (a + b) b (wrap64 (a + b - b))) (Ev.now _)) ?_
    have e2 : wrap64 (a + b - b) = a := by rw [wrap_in _ (by omega) (by omega)]; omega
    have h3 : ¬ (¬ (-68719476736 ≤ a + b ∧ a + b ≤ 68719476736) ∨ ¬ (-68719476736 ≤ b ∧ b ≤ 68719476736)) := by omega
    have h4 : -68719476736 ≤ a ∧ a ≤ 68719476736 := by omega
    simp only [e2, h3, h4, and_self, if_true, if_false]
    exact turns_j0 a b ha hb
  · simp only [h2, if_false]
    exact turns_j0 a b ha hb
end Go.Proofs.Ytcmnfhenbeigdaa.Pure
