/- All trees that are written down are what the runner makes of the program's code. No condition. -/
import Derived.Test.YtbenanokgfphmaaO1
import Derived.Test.YtbenanokgfphmaaO2
set_option maxRecDepth 100000
set_option linter.unusedVariables false
namespace Go.Proofs.Ytbenanokgfphmaa.T
open Go Go.Proofs.Ytbenanokgfphmaa.Sx Go.Proofs
theorem all_ok : ∀ f sg' t, sg f = some sg' → tr f = some t → (treeOf Try.prog sg (sxDrawn Try.prog sg) 6 f sg').same t = true := by
  intro f sg' t h1 h2
  simp only [sg, tr, sigL, trL, Go.Proofs.Ytbenanokgfphmaa.Sx.look] at h1 h2
  by_cases h : (35 == f) = true
  · simp only [h, if_true, Option.some.injEq] at h1 h2
    have := eq_of_beq h
    subst this h1 h2
    exact ok_fixed_Is
  simp only [h, Bool.false_eq_true, if_false] at h1 h2
  by_cases h : (42 == f) = true
  · simp only [h, if_true, Option.some.injEq] at h1 h2
    have := eq_of_beq h
    subst this h1 h2
    exact ok_fixed_size
  simp only [h, Bool.false_eq_true, if_false] at h1 h2
  by_cases h : (41 == f) = true
  · simp only [h, if_true, Option.some.injEq] at h1 h2
    have := eq_of_beq h
    subst this h1 h2
    exact ok_math_bits_Mul64
  simp only [h, Bool.false_eq_true, if_false] at h1 h2
  by_cases h : (50 == f) = true
  · simp only [h, if_true, Option.some.injEq] at h1 h2
    have := eq_of_beq h
    subst this h1 h2
    exact ok_math_bits_Len64
  simp only [h, Bool.false_eq_true, if_false] at h1 h2
  by_cases h : (48 == f) = true
  · simp only [h, if_true, Option.some.injEq] at h1 h2
    have := eq_of_beq h
    subst this h1 h2
    exact ok_math_bits_LeadingZeros64
  simp only [h, Bool.false_eq_true, if_false] at h1 h2
  by_cases h : (43 == f) = true
  · simp only [h, if_true, Option.some.injEq] at h1 h2
    have := eq_of_beq h
    subst this h1 h2
    exact ok_math_bits_Div64
  simp only [h, Bool.false_eq_true, if_false] at h1 h2
  by_cases h : (39 == f) = true
  · simp only [h, if_true, Option.some.injEq] at h1 h2
    have := eq_of_beq h
    subst this h1 h2
    exact ok_fixed_MulDiv
  simp only [h, Bool.false_eq_true, if_false] at h1 h2
  by_cases h : (37 == f) = true
  · simp only [h, if_true, Option.some.injEq] at h1 h2
    have := eq_of_beq h
    subst this h1 h2
    exact ok_fixed_Percent
  simp only [h, Bool.false_eq_true, if_false] at h1 h2
  by_cases h : (27 == f) = true
  · simp only [h, if_true, Option.some.injEq] at h1 h2
    have := eq_of_beq h
    subst this h1 h2
    exact ok_value_Resolve
  simp only [h, Bool.false_eq_true, if_false] at h1 h2
  by_cases h : (22 == f) = true
  · simp only [h, if_true, Option.some.injEq] at h1 h2
    have := eq_of_beq h
    subst this h1 h2
    exact ok_self_isSize
  simp only [h, Bool.false_eq_true, if_false] at h1 h2
  by_cases h : (11 == f) = true
  · simp only [h, if_true, Option.some.injEq] at h1 h2
    have := eq_of_beq h
    subst this h1 h2
    exact ok_self_Margins
  simp only [h, Bool.false_eq_true, if_false] at h1 h2
  by_cases h : (36 == f) = true
  · simp only [h, if_true, Option.some.injEq] at h1 h2
    have := eq_of_beq h
    subst this h1 h2
    exact ok_ref01_Is
  simp only [h, Bool.false_eq_true, if_false] at h1 h2
  by_cases h : (46 == f) = true
  · simp only [h, if_true, Option.some.injEq] at h1 h2
    have := eq_of_beq h
    subst this h1 h2
    exact ok_ref01_size
  simp only [h, Bool.false_eq_true, if_false] at h1 h2
  by_cases h : (49 == f) = true
  · simp only [h, if_true, Option.some.injEq] at h1 h2
    have := eq_of_beq h
    subst this h1 h2
    exact ok_ref01_Wide_twice
  simp only [h, Bool.false_eq_true, if_false] at h1 h2
  by_cases h : (47 == f) = true
  · simp only [h, if_true, Option.some.injEq] at h1 h2
    have := eq_of_beq h
    subst this h1 h2
    exact ok_ref01_Wide_plus
  simp only [h, Bool.false_eq_true, if_false] at h1 h2
  by_cases h : (45 == f) = true
  · simp only [h, if_true, Option.some.injEq] at h1 h2
    have := eq_of_beq h
    subst this h1 h2
    exact ok_ref01_product
  simp only [h, Bool.false_eq_true, if_false] at h1 h2
  by_cases h : (44 == f) = true
  · simp only [h, if_true, Option.some.injEq] at h1 h2
    have := eq_of_beq h
    subst this h1 h2
    exact ok_ref01_quotient
  simp only [h, Bool.false_eq_true, if_false] at h1 h2
  by_cases h : (40 == f) = true
  · simp only [h, if_true, Option.some.injEq] at h1 h2
    have := eq_of_beq h
    subst this h1 h2
    exact ok_ref01_MulDiv
  simp only [h, Bool.false_eq_true, if_false] at h1 h2
  by_cases h : (38 == f) = true
  · simp only [h, if_true, Option.some.injEq] at h1 h2
    have := eq_of_beq h
    subst this h1 h2
    exact ok_ref01_Percent
  simp only [h, Bool.false_eq_true, if_false] at h1 h2
  by_cases h : (28 == f) = true
  · simp only [h, if_true, Option.some.injEq] at h1 h2
    have := eq_of_beq h
    subst this h1 h2
    exact ok_ref05_Resolve
  simp only [h, Bool.false_eq_true, if_false] at h1 h2
  by_cases h : (21 == f) = true
  · simp only [h, if_true, Option.some.injEq] at h1 h2
    have := eq_of_beq h
    subst this h1 h2
    exact ok_ref29_Size
  simp only [h, Bool.false_eq_true, if_false] at h1 h2
  by_cases h : (12 == f) = true
  · simp only [h, if_true, Option.some.injEq] at h1 h2
    have := eq_of_beq h
    subst this h1 h2
    exact ok_ref29_Margins
  simp only [h, Bool.false_eq_true, if_false] at h1 h2
  by_cases h : (24 == f) = true
  · simp only [h, if_true, Option.some.injEq] at h1 h2
    have := eq_of_beq h
    subst this h1 h2
    exact ok_fixed_Div
  simp only [h, Bool.false_eq_true, if_false] at h1 h2
  by_cases h : (23 == f) = true
  · simp only [h, if_true, Option.some.injEq] at h1 h2
    have := eq_of_beq h
    subst this h1 h2
    exact ok_self_isMargin
  simp only [h, Bool.false_eq_true, if_false] at h1 h2
  by_cases h : (8 == f) = true
  · simp only [h, if_true, Option.some.injEq] at h1 h2
    have := eq_of_beq h
    subst this h1 h2
    exact ok_self_Place
  simp only [h, Bool.false_eq_true, if_false] at h1 h2
  by_cases h : (10 == f) = true
  · simp only [h, if_true, Option.some.injEq] at h1 h2
    have := eq_of_beq h
    subst this h1 h2
    exact ok_law29_lives
  simp only [h, Bool.false_eq_true, if_false] at h1 h2
  by_cases h : (4 == f) = true
  · simp only [h, if_true, Option.some.injEq] at h1 h2
    have := eq_of_beq h
    subst this h1 h2
    exact ok_law29_SelfMargins
  simp only [h, Bool.false_eq_true, if_false] at h1 h2
  cases h1
end Go.Proofs.Ytbenanokgfphmaa.T
