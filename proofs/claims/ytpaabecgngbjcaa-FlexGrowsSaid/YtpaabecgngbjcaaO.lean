/- All trees that are written down are what the runner makes of the program's code. No condition. -/
import Derived.Test.YtpaabecgngbjcaaO1
import Derived.Test.YtpaabecgngbjcaaO2
import Derived.Test.YtpaabecgngbjcaaO3
import Derived.Test.YtpaabecgngbjcaaO4
set_option maxRecDepth 100000
set_option linter.unusedVariables false
namespace Go.Proofs.Ytpaabecgngbjcaa.T
open Go Go.Proofs.Ytpaabecgngbjcaa.Sx Go.Proofs
theorem all_ok : ∀ f sg' t, sg f = some sg' → tr f = some t → (treeOf Try.prog sg (sxDrawn Try.prog sg) 6 f sg').same t = true := by
  intro f sg' t h1 h2
  simp only [sg, tr, sigL, trL, Go.Proofs.Ytpaabecgngbjcaa.Sx.look] at h1 h2
  by_cases h : (17 == f) = true
  · simp only [h, if_true, Option.some.injEq] at h1 h2
    have := eq_of_beq h
    subst this h1 h2
    exact ok_law26_fr
  simp only [h, Bool.false_eq_true, if_false] at h1 h2
  by_cases h : (23 == f) = true
  · simp only [h, if_true, Option.some.injEq] at h1 h2
    have := eq_of_beq h
    subst this h1 h2
    exact ok_flex_less
  simp only [h, Bool.false_eq_true, if_false] at h1 h2
  by_cases h : (54 == f) = true
  · simp only [h, if_true, Option.some.injEq] at h1 h2
    have := eq_of_beq h
    subst this h1 h2
    exact ok_fixed_size
  simp only [h, Bool.false_eq_true, if_false] at h1 h2
  by_cases h : (53 == f) = true
  · simp only [h, if_true, Option.some.injEq] at h1 h2
    have := eq_of_beq h
    subst this h1 h2
    exact ok_math_bits_Mul64
  simp only [h, Bool.false_eq_true, if_false] at h1 h2
  by_cases h : (62 == f) = true
  · simp only [h, if_true, Option.some.injEq] at h1 h2
    have := eq_of_beq h
    subst this h1 h2
    exact ok_math_bits_Len64
  simp only [h, Bool.false_eq_true, if_false] at h1 h2
  by_cases h : (61 == f) = true
  · simp only [h, if_true, Option.some.injEq] at h1 h2
    have := eq_of_beq h
    subst this h1 h2
    exact ok_math_bits_LeadingZeros64
  simp only [h, Bool.false_eq_true, if_false] at h1 h2
  by_cases h : (55 == f) = true
  · simp only [h, if_true, Option.some.injEq] at h1 h2
    have := eq_of_beq h
    subst this h1 h2
    exact ok_math_bits_Div64
  simp only [h, Bool.false_eq_true, if_false] at h1 h2
  by_cases h : (37 == f) = true
  · simp only [h, if_true, Option.some.injEq] at h1 h2
    have := eq_of_beq h
    subst this h1 h2
    exact ok_fixed_MulDiv
  simp only [h, Bool.false_eq_true, if_false] at h1 h2
  by_cases h : (24 == f) = true
  · simp only [h, if_true, Option.some.injEq] at h1 h2
    have := eq_of_beq h
    subst this h1 h2
    exact ok_flex_share_part
  simp only [h, Bool.false_eq_true, if_false] at h1 h2
  by_cases h : (22 == f) = true
  · simp only [h, if_true, Option.some.injEq] at h1 h2
    have := eq_of_beq h
    subst this h1 h2
    exact ok_flex_shared
  simp only [h, Bool.false_eq_true, if_false] at h1 h2
  by_cases h : (47 == f) = true
  · simp only [h, if_true, Option.some.injEq] at h1 h2
    have := eq_of_beq h
    subst this h1 h2
    exact ok_base_Raise
  simp only [h, Bool.false_eq_true, if_false] at h1 h2
  by_cases h : (25 == f) = true
  · simp only [h, if_true, Option.some.injEq] at h1 h2
    have := eq_of_beq h
    subst this h1 h2
    exact ok_fixed_Share
  simp only [h, Bool.false_eq_true, if_false] at h1 h2
  by_cases h : (40 == f) = true
  · simp only [h, if_true, Option.some.injEq] at h1 h2
    have := eq_of_beq h
    subst this h1 h2
    exact ok_fixed_Is
  simp only [h, Bool.false_eq_true, if_false] at h1 h2
  by_cases h : (56 == f) = true
  · simp only [h, if_true, Option.some.injEq] at h1 h2
    have := eq_of_beq h
    subst this h1 h2
    exact ok_base_Good_1
  simp only [h, Bool.false_eq_true, if_false] at h1 h2
  by_cases h : (39 == f) = true
  · simp only [h, if_true, Option.some.injEq] at h1 h2
    have := eq_of_beq h
    subst this h1 h2
    exact ok_base_Good
  simp only [h, Bool.false_eq_true, if_false] at h1 h2
  by_cases h : (38 == f) = true
  · simp only [h, if_true, Option.some.injEq] at h1 h2
    have := eq_of_beq h
    subst this h1 h2
    exact ok_flex_right_1
  simp only [h, Bool.false_eq_true, if_false] at h1 h2
  by_cases h : (20 == f) = true
  · simp only [h, if_true, Option.some.injEq] at h1 h2
    have := eq_of_beq h
    subst this h1 h2
    exact ok_flex_right
  simp only [h, Bool.false_eq_true, if_false] at h1 h2
  by_cases h : (44 == f) = true
  · simp only [h, if_true, Option.some.injEq] at h1 h2
    have := eq_of_beq h
    subst this h1 h2
    exact ok_intrinsic_within
  simp only [h, Bool.false_eq_true, if_false] at h1 h2
  by_cases h : (43 == f) = true
  · simp only [h, if_true, Option.some.injEq] at h1 h2
    have := eq_of_beq h
    subst this h1 h2
    exact ok_intrinsic_Good_2
  simp only [h, Bool.false_eq_true, if_false] at h1 h2
  by_cases h : (42 == f) = true
  · simp only [h, if_true, Option.some.injEq] at h1 h2
    have := eq_of_beq h
    subst this h1 h2
    exact ok_intrinsic_Good_1
  simp only [h, Bool.false_eq_true, if_false] at h1 h2
  by_cases h : (21 == f) = true
  · simp only [h, if_true, Option.some.injEq] at h1 h2
    have := eq_of_beq h
    subst this h1 h2
    exact ok_intrinsic_Good
  simp only [h, Bool.false_eq_true, if_false] at h1 h2
  by_cases h : (8 == f) = true
  · simp only [h, if_true, Option.some.injEq] at h1 h2
    have := eq_of_beq h
    subst this h1 h2
    exact ok_flex_Fill
  simp only [h, Bool.false_eq_true, if_false] at h1 h2
  by_cases h : (19 == f) = true
  · simp only [h, if_true, Option.some.injEq] at h1 h2
    have := eq_of_beq h
    subst this h1 h2
    exact ok_law26_bases
  simp only [h, Bool.false_eq_true, if_false] at h1 h2
  by_cases h : (18 == f) = true
  · simp only [h, if_true, Option.some.injEq] at h1 h2
    have := eq_of_beq h
    subst this h1 h2
    exact ok_ref01_Ints
  simp only [h, Bool.false_eq_true, if_false] at h1 h2
  by_cases h : (7 == f) = true
  · simp only [h, if_true, Option.some.injEq] at h1 h2
    have := eq_of_beq h
    subst this h1 h2
    exact ok_law26_lives
  simp only [h, Bool.false_eq_true, if_false] at h1 h2
  by_cases h : (27 == f) = true
  · simp only [h, if_true, Option.some.injEq] at h1 h2
    have := eq_of_beq h
    subst this h1 h2
    exact ok_flex_up
  simp only [h, Bool.false_eq_true, if_false] at h1 h2
  by_cases h : (9 == f) = true
  · simp only [h, if_true, Option.some.injEq] at h1 h2
    have := eq_of_beq h
    subst this h1 h2
    exact ok_flex_Unit
  simp only [h, Bool.false_eq_true, if_false] at h1 h2
  by_cases h : (15 == f) = true
  · simp only [h, if_true, Option.some.injEq] at h1 h2
    have := eq_of_beq h
    subst this h1 h2
    exact ok_ref22_Good
  simp only [h, Bool.false_eq_true, if_false] at h1 h2
  by_cases h : (48 == f) = true
  · simp only [h, if_true, Option.some.injEq] at h1 h2
    have := eq_of_beq h
    subst this h1 h2
    exact ok_ref01_Is
  simp only [h, Bool.false_eq_true, if_false] at h1 h2
  by_cases h : (28 == f) = true
  · simp only [h, if_true, Option.some.injEq] at h1 h2
    have := eq_of_beq h
    subst this h1 h2
    exact ok_ref26_right
  simp only [h, Bool.false_eq_true, if_false] at h1 h2
  by_cases h : (33 == f) = true
  · simp only [h, if_true, Option.some.injEq] at h1 h2
    have := eq_of_beq h
    subst this h1 h2
    exact ok_ref26_flexible
  simp only [h, Bool.false_eq_true, if_false] at h1 h2
  by_cases h : (30 == f) = true
  · simp only [h, if_true, Option.some.injEq] at h1 h2
    have := eq_of_beq h
    subst this h1 h2
    exact ok_ref26_sum
  simp only [h, Bool.false_eq_true, if_false] at h1 h2
  by_cases h : (32 == f) = true
  · simp only [h, if_true, Option.some.injEq] at h1 h2
    have := eq_of_beq h
    subst this h1 h2
    exact ok_ref26_left
  simp only [h, Bool.false_eq_true, if_false] at h1 h2
  by_cases h : (51 == f) = true
  · simp only [h, if_true, Option.some.injEq] at h1 h2
    have := eq_of_beq h
    subst this h1 h2
    exact ok_ref01_size
  simp only [h, Bool.false_eq_true, if_false] at h1 h2
  by_cases h : (60 == f) = true
  · simp only [h, if_true, Option.some.injEq] at h1 h2
    have := eq_of_beq h
    subst this h1 h2
    exact ok_ref01_Wide_twice
  simp only [h, Bool.false_eq_true, if_false] at h1 h2
  by_cases h : (52 == f) = true
  · simp only [h, if_true, Option.some.injEq] at h1 h2
    have := eq_of_beq h
    subst this h1 h2
    exact ok_ref01_Wide_plus
  simp only [h, Bool.false_eq_true, if_false] at h1 h2
  by_cases h : (50 == f) = true
  · simp only [h, if_true, Option.some.injEq] at h1 h2
    have := eq_of_beq h
    subst this h1 h2
    exact ok_ref01_product
  simp only [h, Bool.false_eq_true, if_false] at h1 h2
  by_cases h : (49 == f) = true
  · simp only [h, if_true, Option.some.injEq] at h1 h2
    have := eq_of_beq h
    subst this h1 h2
    exact ok_ref01_quotient
  simp only [h, Bool.false_eq_true, if_false] at h1 h2
  by_cases h : (35 == f) = true
  · simp only [h, if_true, Option.some.injEq] at h1 h2
    have := eq_of_beq h
    subst this h1 h2
    exact ok_ref01_MulDiv
  simp only [h, Bool.false_eq_true, if_false] at h1 h2
  by_cases h : (29 == f) = true
  · simp only [h, if_true, Option.some.injEq] at h1 h2
    have := eq_of_beq h
    subst this h1 h2
    exact ok_ref26_stiff
  simp only [h, Bool.false_eq_true, if_false] at h1 h2
  by_cases h : (31 == f) = true
  · simp only [h, if_true, Option.some.injEq] at h1 h2
    have := eq_of_beq h
    subst this h1 h2
    exact ok_ref26_up
  simp only [h, Bool.false_eq_true, if_false] at h1 h2
  by_cases h : (10 == f) = true
  · simp only [h, if_true, Option.some.injEq] at h1 h2
    have := eq_of_beq h
    subst this h1 h2
    exact ok_ref26_Unit
  simp only [h, Bool.false_eq_true, if_false] at h1 h2
  by_cases h : (34 == f) = true
  · simp only [h, if_true, Option.some.injEq] at h1 h2
    have := eq_of_beq h
    subst this h1 h2
    exact ok_ref01_Share
  simp only [h, Bool.false_eq_true, if_false] at h1 h2
  by_cases h : (36 == f) = true
  · simp only [h, if_true, Option.some.injEq] at h1 h2
    have := eq_of_beq h
    subst this h1 h2
    exact ok_ref22_Raise
  simp only [h, Bool.false_eq_true, if_false] at h1 h2
  by_cases h : (16 == f) = true
  · simp only [h, if_true, Option.some.injEq] at h1 h2
    have := eq_of_beq h
    subst this h1 h2
    exact ok_ref24_within
  simp only [h, Bool.false_eq_true, if_false] at h1 h2
  by_cases h : (6 == f) = true
  · simp only [h, if_true, Option.some.injEq] at h1 h2
    have := eq_of_beq h
    subst this h1 h2
    exact ok_ref24_Good
  simp only [h, Bool.false_eq_true, if_false] at h1 h2
  by_cases h : (12 == f) = true
  · simp only [h, if_true, Option.some.injEq] at h1 h2
    have := eq_of_beq h
    subst this h1 h2
    exact ok_ref26_Fill
  simp only [h, Bool.false_eq_true, if_false] at h1 h2
  by_cases h : (11 == f) = true
  · simp only [h, if_true, Option.some.injEq] at h1 h2
    have := eq_of_beq h
    subst this h1 h2
    exact ok_ref22_Same
  simp only [h, Bool.false_eq_true, if_false] at h1 h2
  by_cases h : (13 == f) = true
  · simp only [h, if_true, Option.some.injEq] at h1 h2
    have := eq_of_beq h
    subst this h1 h2
    exact ok_flex_Grow
  simp only [h, Bool.false_eq_true, if_false] at h1 h2
  by_cases h : (14 == f) = true
  · simp only [h, if_true, Option.some.injEq] at h1 h2
    have := eq_of_beq h
    subst this h1 h2
    exact ok_ref26_Grow
  simp only [h, Bool.false_eq_true, if_false] at h1 h2
  by_cases h : (4 == f) = true
  · simp only [h, if_true, Option.some.injEq] at h1 h2
    have := eq_of_beq h
    subst this h1 h2
    exact ok_law26_FlexTells
  simp only [h, Bool.false_eq_true, if_false] at h1 h2
  by_cases h : (3 == f) = true
  · simp only [h, if_true, Option.some.injEq] at h1 h2
    have := eq_of_beq h
    subst this h1 h2
    exact ok_law26_FlexFills
  simp only [h, Bool.false_eq_true, if_false] at h1 h2
  by_cases h : (5 == f) = true
  · simp only [h, if_true, Option.some.injEq] at h1 h2
    have := eq_of_beq h
    subst this h1 h2
    exact ok_law26_FlexGrows
  simp only [h, Bool.false_eq_true, if_false] at h1 h2
  cases h1
end Go.Proofs.Ytpaabecgngbjcaa.T
