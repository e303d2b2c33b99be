/- All trees that are written down are what the runner makes of the program's code. No condition. -/
import Derived.Test.YtbebnjiolaomdaaO1
import Derived.Test.YtbebnjiolaomdaaO2
import Derived.Test.YtbebnjiolaomdaaO3
set_option maxRecDepth 100000
set_option linter.unusedVariables false
namespace Go.Proofs.Ytbebnjiolaomdaa.T
open Go Go.Proofs.Ytbebnjiolaomdaa.Sx Go.Proofs
theorem all_ok : ∀ f sg' t, sg f = some sg' → tr f = some t → ∃ orc, (treeOf Try.prog sg (ofOrc orc) (sxDrawn Try.prog sg) 6 f sg').same t = true := by
 intro f sg' t h1 h2
 simp only [sg, tr, sigL, trL, Go.Proofs.Ytbebnjiolaomdaa.Sx.look] at h1 h2
 by_cases h : (7 == f) = true
 · simp only [h, if_true, Option.some.injEq] at h1 h2
   have := eq_of_beq h
   subst this h1 h2
   exact ok_law24_light
 simp only [h, Bool.false_eq_true, if_false] at h1 h2
 by_cases h : (49 == f) = true
 · simp only [h, if_true, Option.some.injEq] at h1 h2
   have := eq_of_beq h
   subst this h1 h2
   exact ok_fixed_Is
 simp only [h, Bool.false_eq_true, if_false] at h1 h2
 by_cases h : (22 == f) = true
 · simp only [h, if_true, Option.some.injEq] at h1 h2
   have := eq_of_beq h
   subst this h1 h2
   exact ok_intrinsic_within
 simp only [h, Bool.false_eq_true, if_false] at h1 h2
 by_cases h : (28 == f) = true
 · simp only [h, if_true, Option.some.injEq] at h1 h2
   have := eq_of_beq h
   subst this h1 h2
   exact ok_intrinsic_Good_2
 simp only [h, Bool.false_eq_true, if_false] at h1 h2
 by_cases h : (53 == f) = true
 · simp only [h, if_true, Option.some.injEq] at h1 h2
   have := eq_of_beq h
   subst this h1 h2
   exact ok_base_Good_1
 simp only [h, Bool.false_eq_true, if_false] at h1 h2
 by_cases h : (27 == f) = true
 · simp only [h, if_true, Option.some.injEq] at h1 h2
   have := eq_of_beq h
   subst this h1 h2
   exact ok_base_Good
 simp only [h, Bool.false_eq_true, if_false] at h1 h2
 by_cases h : (26 == f) = true
 · simp only [h, if_true, Option.some.injEq] at h1 h2
   have := eq_of_beq h
   subst this h1 h2
   exact ok_intrinsic_Good_1
 simp only [h, Bool.false_eq_true, if_false] at h1 h2
 by_cases h : (13 == f) = true
 · simp only [h, if_true, Option.some.injEq] at h1 h2
   have := eq_of_beq h
   subst this h1 h2
   exact ok_intrinsic_Good
 simp only [h, Bool.false_eq_true, if_false] at h1 h2
 by_cases h : (15 == f) = true
 · simp only [h, if_true, Option.some.injEq] at h1 h2
   have := eq_of_beq h
   subst this h1 h2
   exact ok_slices_Clone___api_Sizing_api_Sizing_
 simp only [h, Bool.false_eq_true, if_false] at h1 h2
 by_cases h : (38 == f) = true
 · simp only [h, if_true, Option.some.injEq] at h1 h2
   have := eq_of_beq h
   subst this h1 h2
   exact ok_intrinsic_loose
 simp only [h, Bool.false_eq_true, if_false] at h1 h2
 by_cases h : (41 == f) = true
 · simp only [h, if_true, Option.some.injEq] at h1 h2
   have := eq_of_beq h
   subst this h1 h2
   exact ok_intrinsic_limit
 simp only [h, Bool.false_eq_true, if_false] at h1 h2
 by_cases h : (55 == f) = true
 · simp only [h, if_true, Option.some.injEq] at h1 h2
   have := eq_of_beq h
   subst this h1 h2
   exact ok_pintrinsic_sizer_rounds_1
 simp only [h, Bool.false_eq_true, if_false] at h1 h2
 by_cases h : (33 == f) = true
 · simp only [h, if_true, Option.some.injEq] at h1 h2
   have := eq_of_beq h
   subst this h1 h2
   exact ok_base_Raise
 simp only [h, Bool.false_eq_true, if_false] at h1 h2
 by_cases h : (32 == f) = true
 · simp only [h, if_true, Option.some.injEq] at h1 h2
   have := eq_of_beq h
   subst this h1 h2
   exact ok_intrinsic_content
 simp only [h, Bool.false_eq_true, if_false] at h1 h2
 by_cases h : (18 == f) = true
 · simp only [h, if_true, Option.some.injEq] at h1 h2
   have := eq_of_beq h
   subst this h1 h2
   exact ok_intrinsic_Size_1
 simp only [h, Bool.false_eq_true, if_false] at h1 h2
 by_cases h : (43 == f) = true
 · simp only [h, if_true, Option.some.injEq] at h1 h2
   have := eq_of_beq h
   subst this h1 h2
   exact ok_pintrinsic_sizer_bases_2
 simp only [h, Bool.false_eq_true, if_false] at h1 h2
 by_cases h : (61 == f) = true
 · simp only [h, if_true, Option.some.injEq] at h1 h2
   have := eq_of_beq h
   subst this h1 h2
   exact ok_pintrinsic_sizer_rounds_7
 simp only [h, Bool.false_eq_true, if_false] at h1 h2
 by_cases h : (81 == f) = true
 · simp only [h, if_true, Option.some.injEq] at h1 h2
   have := eq_of_beq h
   subst this h1 h2
   exact ok_spread_right
 simp only [h, Bool.false_eq_true, if_false] at h1 h2
 by_cases h : (91 == f) = true
 · simp only [h, if_true, Option.some.injEq] at h1 h2
   have := eq_of_beq h
   subst this h1 h2
   exact ok_spread_rooms
 simp only [h, Bool.false_eq_true, if_false] at h1 h2
 by_cases h : (90 == f) = true
 · simp only [h, if_true, Option.some.injEq] at h1 h2
   have := eq_of_beq h
   subst this h1 h2
   exact ok_spread_Up
 simp only [h, Bool.false_eq_true, if_false] at h1 h2
 by_cases h : (83 == f) = true
 · simp only [h, if_true, Option.some.injEq] at h1 h2
   have := eq_of_beq h
   subst this h1 h2
   exact ok_fixed_Split
 simp only [h, Bool.false_eq_true, if_false] at h1 h2
 by_cases h : (80 == f) = true
 · simp only [h, if_true, Option.some.injEq] at h1 h2
   have := eq_of_beq h
   subst this h1 h2
   exact ok_spread_Fill
 simp only [h, Bool.false_eq_true, if_false] at h1 h2
 by_cases h : (63 == f) = true
 · simp only [h, if_true, Option.some.injEq] at h1 h2
   have := eq_of_beq h
   subst this h1 h2
   exact ok_pintrinsic_sizer_rounds_9
 simp only [h, Bool.false_eq_true, if_false] at h1 h2
 by_cases h : (62 == f) = true
 · simp only [h, if_true, Option.some.injEq] at h1 h2
   have := eq_of_beq h
   subst this h1 h2
   exact ok_pintrinsic_sizer_rounds_8
 simp only [h, Bool.false_eq_true, if_false] at h1 h2
 by_cases h : (57 == f) = true
 · simp only [h, if_true, Option.some.injEq] at h1 h2
   have := eq_of_beq h
   subst this h1 h2
   exact ok_pintrinsic_sizer_rounds_3
 simp only [h, Bool.false_eq_true, if_false] at h1 h2
 by_cases h : (60 == f) = true
 · simp only [h, if_true, Option.some.injEq] at h1 h2
   have := eq_of_beq h
   subst this h1 h2
   exact ok_pintrinsic_sizer_rounds_6
 simp only [h, Bool.false_eq_true, if_false] at h1 h2
 by_cases h : (58 == f) = true
 · simp only [h, if_true, Option.some.injEq] at h1 h2
   have := eq_of_beq h
   subst this h1 h2
   exact ok_pintrinsic_sizer_rounds_4
 simp only [h, Bool.false_eq_true, if_false] at h1 h2
 by_cases h : (39 == f) = true
 · simp only [h, if_true, Option.some.injEq] at h1 h2
   have := eq_of_beq h
   subst this h1 h2
   exact ok_pintrinsic_sizer_several_1
 simp only [h, Bool.false_eq_true, if_false] at h1 h2
 by_cases h : (75 == f) = true
 · simp only [h, if_true, Option.some.injEq] at h1 h2
   have := eq_of_beq h
   subst this h1 h2
   exact ok_pintrinsic_sizer_limits_1
 simp only [h, Bool.false_eq_true, if_false] at h1 h2
 by_cases h : (76 == f) = true
 · simp only [h, if_true, Option.some.injEq] at h1 h2
   have := eq_of_beq h
   subst this h1 h2
   exact ok_pintrinsic_sizer_limits_2
 simp only [h, Bool.false_eq_true, if_false] at h1 h2
 by_cases h : (40 == f) = true
 · simp only [h, if_true, Option.some.injEq] at h1 h2
   have := eq_of_beq h
   subst this h1 h2
   exact ok_pintrinsic_sizer_several_2
 simp only [h, Bool.false_eq_true, if_false] at h1 h2
 by_cases h : (98 == f) = true
 · simp only [h, if_true, Option.some.injEq] at h1 h2
   have := eq_of_beq h
   subst this h1 h2
   exact ok_fixed_size
 simp only [h, Bool.false_eq_true, if_false] at h1 h2
 by_cases h : (97 == f) = true
 · simp only [h, if_true, Option.some.injEq] at h1 h2
   have := eq_of_beq h
   subst this h1 h2
   exact ok_math_bits_Mul64
 simp only [h, Bool.false_eq_true, if_false] at h1 h2
 by_cases h : (74 == f) = true
 · simp only [h, if_true, Option.some.injEq] at h1 h2
   have := eq_of_beq h
   subst this h1 h2
   exact ok_math_bits_Len64
 simp only [h, Bool.false_eq_true, if_false] at h1 h2
 by_cases h : (100 == f) = true
 · simp only [h, if_true, Option.some.injEq] at h1 h2
   have := eq_of_beq h
   subst this h1 h2
   exact ok_math_bits_LeadingZeros64
 simp only [h, Bool.false_eq_true, if_false] at h1 h2
 by_cases h : (99 == f) = true
 · simp only [h, if_true, Option.some.injEq] at h1 h2
   have := eq_of_beq h
   subst this h1 h2
   exact ok_math_bits_Div64
 simp only [h, Bool.false_eq_true, if_false] at h1 h2
 by_cases h : (96 == f) = true
 · simp only [h, if_true, Option.some.injEq] at h1 h2
   have := eq_of_beq h
   subst this h1 h2
   exact ok_fixed_MulDiv
 simp only [h, Bool.false_eq_true, if_false] at h1 h2
 by_cases h : (82 == f) = true
 · simp only [h, if_true, Option.some.injEq] at h1 h2
   have := eq_of_beq h
   subst this h1 h2
   exact ok_fixed_Share
 simp only [h, Bool.false_eq_true, if_false] at h1 h2
 by_cases h : (48 == f) = true
 · simp only [h, if_true, Option.some.injEq] at h1 h2
   have := eq_of_beq h
   subst this h1 h2
   exact ok_spread_By
 simp only [h, Bool.false_eq_true, if_false] at h1 h2
 by_cases h : (9 == f) = true
 · simp only [h, if_true, Option.some.injEq] at h1 h2
   have := eq_of_beq h
   subst this h1 h2
   exact ok_intrinsic_Size
 simp only [h, Bool.false_eq_true, if_false] at h1 h2
 by_cases h : (8 == f) = true
 · simp only [h, if_true, Option.some.injEq] at h1 h2
   have := eq_of_beq h
   subst this h1 h2
   exact ok_law24_lives
 simp only [h, Bool.false_eq_true, if_false] at h1 h2
 by_cases h : (4 == f) = true
 · simp only [h, if_true, Option.some.injEq] at h1 h2
   have := eq_of_beq h
   subst this h1 h2
   exact ok_law24_IntrinsicMore
 simp only [h, Bool.false_eq_true, if_false] at h1 h2
 by_cases h : (3 == f) = true
 · simp only [h, if_true, Option.some.injEq] at h1 h2
   have := eq_of_beq h
   subst this h1 h2
   exact ok_law24_IntrinsicEnough
 simp only [h, Bool.false_eq_true, if_false] at h1 h2
 by_cases h : (10 == f) = true
 · simp only [h, if_true, Option.some.injEq] at h1 h2
   have := eq_of_beq h
   subst this h1 h2
   exact ok_ref22_Same
 simp only [h, Bool.false_eq_true, if_false] at h1 h2
 by_cases h : (5 == f) = true
 · simp only [h, if_true, Option.some.injEq] at h1 h2
   have := eq_of_beq h
   subst this h1 h2
   exact ok_law24_IntrinsicTurned
 simp only [h, Bool.false_eq_true, if_false] at h1 h2
 cases h1
end Go.Proofs.Ytbebnjiolaomdaa.T
