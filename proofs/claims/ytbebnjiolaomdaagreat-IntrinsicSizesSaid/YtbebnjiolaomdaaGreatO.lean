/- All trees that are written down are what the runner makes of the program's code. No condition. -/
import Derived.Test.YtbebnjiolaomdaaGreatO1
import Derived.Test.YtbebnjiolaomdaaGreatO2
import Derived.Test.YtbebnjiolaomdaaGreatO3
import Derived.Test.YtbebnjiolaomdaaGreatO4
set_option maxRecDepth 100000
set_option linter.unusedVariables false
namespace Go.Proofs.YtbebnjiolaomdaaGreat.T
open Go Go.Proofs.YtbebnjiolaomdaaGreat.Sx Go.Proofs
theorem all_ok : ∀ f sg' t, sg f = some sg' → tr f = some t → ∃ orc, (treeOf Tryz.prog sg (ofOrc orc) (sxDrawn Tryz.prog sg) 6 f sg').same t = true := by
 intro f sg' t h1 h2
 simp only [sg, tr, sigL, trL, Go.Proofs.YtbebnjiolaomdaaGreat.Sx.look] at h1 h2
 by_cases h : (4 == f) = true
 · simp only [h, if_true, Option.some.injEq] at h1 h2
   have := eq_of_beq h
   subst this h1 h2
   exact ok_law24_light
 simp only [h, Bool.false_eq_true, if_false] at h1 h2
 by_cases h : (55 == f) = true
 · simp only [h, if_true, Option.some.injEq] at h1 h2
   have := eq_of_beq h
   subst this h1 h2
   exact ok_fixed_Is
 simp only [h, Bool.false_eq_true, if_false] at h1 h2
 by_cases h : (26 == f) = true
 · simp only [h, if_true, Option.some.injEq] at h1 h2
   have := eq_of_beq h
   subst this h1 h2
   exact ok_intrinsic_within
 simp only [h, Bool.false_eq_true, if_false] at h1 h2
 by_cases h : (25 == f) = true
 · simp only [h, if_true, Option.some.injEq] at h1 h2
   have := eq_of_beq h
   subst this h1 h2
   exact ok_intrinsic_Good_2
 simp only [h, Bool.false_eq_true, if_false] at h1 h2
 by_cases h : (54 == f) = true
 · simp only [h, if_true, Option.some.injEq] at h1 h2
   have := eq_of_beq h
   subst this h1 h2
   exact ok_base_Good_1
 simp only [h, Bool.false_eq_true, if_false] at h1 h2
 by_cases h : (24 == f) = true
 · simp only [h, if_true, Option.some.injEq] at h1 h2
   have := eq_of_beq h
   subst this h1 h2
   exact ok_base_Good
 simp only [h, Bool.false_eq_true, if_false] at h1 h2
 by_cases h : (23 == f) = true
 · simp only [h, if_true, Option.some.injEq] at h1 h2
   have := eq_of_beq h
   subst this h1 h2
   exact ok_intrinsic_Good_1
 simp only [h, Bool.false_eq_true, if_false] at h1 h2
 by_cases h : (9 == f) = true
 · simp only [h, if_true, Option.some.injEq] at h1 h2
   have := eq_of_beq h
   subst this h1 h2
   exact ok_intrinsic_Good
 simp only [h, Bool.false_eq_true, if_false] at h1 h2
 by_cases h : (10 == f) = true
 · simp only [h, if_true, Option.some.injEq] at h1 h2
   have := eq_of_beq h
   subst this h1 h2
   exact ok_slices_Clone___api_Sizing_api_Sizing_
 simp only [h, Bool.false_eq_true, if_false] at h1 h2
 by_cases h : (35 == f) = true
 · simp only [h, if_true, Option.some.injEq] at h1 h2
   have := eq_of_beq h
   subst this h1 h2
   exact ok_intrinsic_loose
 simp only [h, Bool.false_eq_true, if_false] at h1 h2
 by_cases h : (38 == f) = true
 · simp only [h, if_true, Option.some.injEq] at h1 h2
   have := eq_of_beq h
   subst this h1 h2
   exact ok_intrinsic_limit
 simp only [h, Bool.false_eq_true, if_false] at h1 h2
 by_cases h : (57 == f) = true
 · simp only [h, if_true, Option.some.injEq] at h1 h2
   have := eq_of_beq h
   subst this h1 h2
   exact ok_pintrinsic_sizer_rounds_1
 simp only [h, Bool.false_eq_true, if_false] at h1 h2
 by_cases h : (30 == f) = true
 · simp only [h, if_true, Option.some.injEq] at h1 h2
   have := eq_of_beq h
   subst this h1 h2
   exact ok_base_Raise
 simp only [h, Bool.false_eq_true, if_false] at h1 h2
 by_cases h : (29 == f) = true
 · simp only [h, if_true, Option.some.injEq] at h1 h2
   have := eq_of_beq h
   subst this h1 h2
   exact ok_intrinsic_content
 simp only [h, Bool.false_eq_true, if_false] at h1 h2
 by_cases h : (13 == f) = true
 · simp only [h, if_true, Option.some.injEq] at h1 h2
   have := eq_of_beq h
   subst this h1 h2
   exact ok_intrinsic_Size_1
 simp only [h, Bool.false_eq_true, if_false] at h1 h2
 by_cases h : (40 == f) = true
 · simp only [h, if_true, Option.some.injEq] at h1 h2
   have := eq_of_beq h
   subst this h1 h2
   exact ok_pintrinsic_sizer_bases_2
 simp only [h, Bool.false_eq_true, if_false] at h1 h2
 by_cases h : (64 == f) = true
 · simp only [h, if_true, Option.some.injEq] at h1 h2
   have := eq_of_beq h
   subst this h1 h2
   exact ok_pintrinsic_sizer_rounds_7
 simp only [h, Bool.false_eq_true, if_false] at h1 h2
 by_cases h : (85 == f) = true
 · simp only [h, if_true, Option.some.injEq] at h1 h2
   have := eq_of_beq h
   subst this h1 h2
   exact ok_spread_right
 simp only [h, Bool.false_eq_true, if_false] at h1 h2
 by_cases h : (101 == f) = true
 · simp only [h, if_true, Option.some.injEq] at h1 h2
   have := eq_of_beq h
   subst this h1 h2
   exact ok_spread_rooms
 simp only [h, Bool.false_eq_true, if_false] at h1 h2
 by_cases h : (100 == f) = true
 · simp only [h, if_true, Option.some.injEq] at h1 h2
   have := eq_of_beq h
   subst this h1 h2
   exact ok_spread_Up
 simp only [h, Bool.false_eq_true, if_false] at h1 h2
 by_cases h : (87 == f) = true
 · simp only [h, if_true, Option.some.injEq] at h1 h2
   have := eq_of_beq h
   subst this h1 h2
   exact ok_fixed_Split
 simp only [h, Bool.false_eq_true, if_false] at h1 h2
 by_cases h : (84 == f) = true
 · simp only [h, if_true, Option.some.injEq] at h1 h2
   have := eq_of_beq h
   subst this h1 h2
   exact ok_spread_Fill
 simp only [h, Bool.false_eq_true, if_false] at h1 h2
 by_cases h : (66 == f) = true
 · simp only [h, if_true, Option.some.injEq] at h1 h2
   have := eq_of_beq h
   subst this h1 h2
   exact ok_pintrinsic_sizer_rounds_9
 simp only [h, Bool.false_eq_true, if_false] at h1 h2
 by_cases h : (65 == f) = true
 · simp only [h, if_true, Option.some.injEq] at h1 h2
   have := eq_of_beq h
   subst this h1 h2
   exact ok_pintrinsic_sizer_rounds_8
 simp only [h, Bool.false_eq_true, if_false] at h1 h2
 by_cases h : (60 == f) = true
 · simp only [h, if_true, Option.some.injEq] at h1 h2
   have := eq_of_beq h
   subst this h1 h2
   exact ok_pintrinsic_sizer_rounds_3
 simp only [h, Bool.false_eq_true, if_false] at h1 h2
 by_cases h : (63 == f) = true
 · simp only [h, if_true, Option.some.injEq] at h1 h2
   have := eq_of_beq h
   subst this h1 h2
   exact ok_pintrinsic_sizer_rounds_6
 simp only [h, Bool.false_eq_true, if_false] at h1 h2
 by_cases h : (61 == f) = true
 · simp only [h, if_true, Option.some.injEq] at h1 h2
   have := eq_of_beq h
   subst this h1 h2
   exact ok_pintrinsic_sizer_rounds_4
 simp only [h, Bool.false_eq_true, if_false] at h1 h2
 by_cases h : (36 == f) = true
 · simp only [h, if_true, Option.some.injEq] at h1 h2
   have := eq_of_beq h
   subst this h1 h2
   exact ok_pintrinsic_sizer_several_1
 simp only [h, Bool.false_eq_true, if_false] at h1 h2
 by_cases h : (78 == f) = true
 · simp only [h, if_true, Option.some.injEq] at h1 h2
   have := eq_of_beq h
   subst this h1 h2
   exact ok_pintrinsic_sizer_limits_1
 simp only [h, Bool.false_eq_true, if_false] at h1 h2
 by_cases h : (79 == f) = true
 · simp only [h, if_true, Option.some.injEq] at h1 h2
   have := eq_of_beq h
   subst this h1 h2
   exact ok_pintrinsic_sizer_limits_2
 simp only [h, Bool.false_eq_true, if_false] at h1 h2
 by_cases h : (37 == f) = true
 · simp only [h, if_true, Option.some.injEq] at h1 h2
   have := eq_of_beq h
   subst this h1 h2
   exact ok_pintrinsic_sizer_several_2
 simp only [h, Bool.false_eq_true, if_false] at h1 h2
 by_cases h : (114 == f) = true
 · simp only [h, if_true, Option.some.injEq] at h1 h2
   have := eq_of_beq h
   subst this h1 h2
   exact ok_fixed_size
 simp only [h, Bool.false_eq_true, if_false] at h1 h2
 by_cases h : (113 == f) = true
 · simp only [h, if_true, Option.some.injEq] at h1 h2
   have := eq_of_beq h
   subst this h1 h2
   exact ok_math_bits_Mul64
 simp only [h, Bool.false_eq_true, if_false] at h1 h2
 by_cases h : (77 == f) = true
 · simp only [h, if_true, Option.some.injEq] at h1 h2
   have := eq_of_beq h
   subst this h1 h2
   exact ok_math_bits_Len64
 simp only [h, Bool.false_eq_true, if_false] at h1 h2
 by_cases h : (120 == f) = true
 · simp only [h, if_true, Option.some.injEq] at h1 h2
   have := eq_of_beq h
   subst this h1 h2
   exact ok_math_bits_LeadingZeros64
 simp only [h, Bool.false_eq_true, if_false] at h1 h2
 by_cases h : (115 == f) = true
 · simp only [h, if_true, Option.some.injEq] at h1 h2
   have := eq_of_beq h
   subst this h1 h2
   exact ok_math_bits_Div64
 simp only [h, Bool.false_eq_true, if_false] at h1 h2
 by_cases h : (110 == f) = true
 · simp only [h, if_true, Option.some.injEq] at h1 h2
   have := eq_of_beq h
   subst this h1 h2
   exact ok_fixed_MulDiv
 simp only [h, Bool.false_eq_true, if_false] at h1 h2
 by_cases h : (86 == f) = true
 · simp only [h, if_true, Option.some.injEq] at h1 h2
   have := eq_of_beq h
   subst this h1 h2
   exact ok_fixed_Share
 simp only [h, Bool.false_eq_true, if_false] at h1 h2
 by_cases h : (45 == f) = true
 · simp only [h, if_true, Option.some.injEq] at h1 h2
   have := eq_of_beq h
   subst this h1 h2
   exact ok_spread_By
 simp only [h, Bool.false_eq_true, if_false] at h1 h2
 by_cases h : (6 == f) = true
 · simp only [h, if_true, Option.some.injEq] at h1 h2
   have := eq_of_beq h
   subst this h1 h2
   exact ok_intrinsic_Size
 simp only [h, Bool.false_eq_true, if_false] at h1 h2
 by_cases h : (46 == f) = true
 · simp only [h, if_true, Option.some.injEq] at h1 h2
   have := eq_of_beq h
   subst this h1 h2
   exact ok_ref22_Good
 simp only [h, Bool.false_eq_true, if_false] at h1 h2
 by_cases h : (47 == f) = true
 · simp only [h, if_true, Option.some.injEq] at h1 h2
   have := eq_of_beq h
   subst this h1 h2
   exact ok_ref24_within
 simp only [h, Bool.false_eq_true, if_false] at h1 h2
 by_cases h : (17 == f) = true
 · simp only [h, if_true, Option.some.injEq] at h1 h2
   have := eq_of_beq h
   subst this h1 h2
   exact ok_ref24_Good
 simp only [h, Bool.false_eq_true, if_false] at h1 h2
 by_cases h : (89 == f) = true
 · simp only [h, if_true, Option.some.injEq] at h1 h2
   have := eq_of_beq h
   subst this h1 h2
   exact ok_ref24_gaps
 simp only [h, Bool.false_eq_true, if_false] at h1 h2
 by_cases h : (50 == f) = true
 · simp only [h, if_true, Option.some.injEq] at h1 h2
   have := eq_of_beq h
   subst this h1 h2
   exact ok_ref24_fits
 simp only [h, Bool.false_eq_true, if_false] at h1 h2
 by_cases h : (88 == f) = true
 · simp only [h, if_true, Option.some.injEq] at h1 h2
   have := eq_of_beq h
   subst this h1 h2
   exact ok_ref24_limited
 simp only [h, Bool.false_eq_true, if_false] at h1 h2
 by_cases h : (48 == f) = true
 · simp only [h, if_true, Option.some.injEq] at h1 h2
   have := eq_of_beq h
   subst this h1 h2
   exact ok_ref24_wanted
 simp only [h, Bool.false_eq_true, if_false] at h1 h2
 by_cases h : (49 == f) = true
 · simp only [h, if_true, Option.some.injEq] at h1 h2
   have := eq_of_beq h
   subst this h1 h2
   exact ok_ref22_Raise
 simp only [h, Bool.false_eq_true, if_false] at h1 h2
 by_cases h : (18 == f) = true
 · simp only [h, if_true, Option.some.injEq] at h1 h2
   have := eq_of_beq h
   subst this h1 h2
   exact ok_ref24_one
 simp only [h, Bool.false_eq_true, if_false] at h1 h2
 by_cases h : (19 == f) = true
 · simp only [h, if_true, Option.some.injEq] at h1 h2
   have := eq_of_beq h
   subst this h1 h2
   exact ok_ref24_flexible
 simp only [h, Bool.false_eq_true, if_false] at h1 h2
 by_cases h : (53 == f) = true
 · simp only [h, if_true, Option.some.injEq] at h1 h2
   have := eq_of_beq h
   subst this h1 h2
   exact ok_ref24_size
 simp only [h, Bool.false_eq_true, if_false] at h1 h2
 by_cases h : (52 == f) = true
 · simp only [h, if_true, Option.some.injEq] at h1 h2
   have := eq_of_beq h
   subst this h1 h2
   exact ok_ref24_of
 simp only [h, Bool.false_eq_true, if_false] at h1 h2
 by_cases h : (90 == f) = true
 · simp only [h, if_true, Option.some.injEq] at h1 h2
   have := eq_of_beq h
   subst this h1 h2
   exact ok_ref24_room
 simp only [h, Bool.false_eq_true, if_false] at h1 h2
 by_cases h : (91 == f) = true
 · simp only [h, if_true, Option.some.injEq] at h1 h2
   have := eq_of_beq h
   subst this h1 h2
   exact ok_ref24_far
 simp only [h, Bool.false_eq_true, if_false] at h1 h2
 by_cases h : (103 == f) = true
 · simp only [h, if_true, Option.some.injEq] at h1 h2
   have := eq_of_beq h
   subst this h1 h2
   exact ok_ref23_Right
 simp only [h, Bool.false_eq_true, if_false] at h1 h2
 by_cases h : (111 == f) = true
 · simp only [h, if_true, Option.some.injEq] at h1 h2
   have := eq_of_beq h
   subst this h1 h2
   exact ok_ref23_taken
 simp only [h, Bool.false_eq_true, if_false] at h1 h2
 by_cases h : (104 == f) = true
 · simp only [h, if_true, Option.some.injEq] at h1 h2
   have := eq_of_beq h
   subst this h1 h2
   exact ok_ref23_Up
 simp only [h, Bool.false_eq_true, if_false] at h1 h2
 by_cases h : (105 == f) = true
 · simp only [h, if_true, Option.some.injEq] at h1 h2
   have := eq_of_beq h
   subst this h1 h2
   exact ok_ref01_Split
 simp only [h, Bool.false_eq_true, if_false] at h1 h2
 by_cases h : (92 == f) = true
 · simp only [h, if_true, Option.some.injEq] at h1 h2
   have := eq_of_beq h
   subst this h1 h2
   exact ok_ref23_Fill
 simp only [h, Bool.false_eq_true, if_false] at h1 h2
 by_cases h : (118 == f) = true
 · simp only [h, if_true, Option.some.injEq] at h1 h2
   have := eq_of_beq h
   subst this h1 h2
   exact ok_ref01_size
 simp only [h, Bool.false_eq_true, if_false] at h1 h2
 by_cases h : (121 == f) = true
 · simp only [h, if_true, Option.some.injEq] at h1 h2
   have := eq_of_beq h
   subst this h1 h2
   exact ok_ref01_Wide_twice
 simp only [h, Bool.false_eq_true, if_false] at h1 h2
 by_cases h : (119 == f) = true
 · simp only [h, if_true, Option.some.injEq] at h1 h2
   have := eq_of_beq h
   subst this h1 h2
   exact ok_ref01_Wide_plus
 simp only [h, Bool.false_eq_true, if_false] at h1 h2
 by_cases h : (117 == f) = true
 · simp only [h, if_true, Option.some.injEq] at h1 h2
   have := eq_of_beq h
   subst this h1 h2
   exact ok_ref01_product
 simp only [h, Bool.false_eq_true, if_false] at h1 h2
 by_cases h : (116 == f) = true
 · simp only [h, if_true, Option.some.injEq] at h1 h2
   have := eq_of_beq h
   subst this h1 h2
   exact ok_ref01_quotient
 simp only [h, Bool.false_eq_true, if_false] at h1 h2
 by_cases h : (112 == f) = true
 · simp only [h, if_true, Option.some.injEq] at h1 h2
   have := eq_of_beq h
   subst this h1 h2
   exact ok_ref01_MulDiv
 simp only [h, Bool.false_eq_true, if_false] at h1 h2
 by_cases h : (106 == f) = true
 · simp only [h, if_true, Option.some.injEq] at h1 h2
   have := eq_of_beq h
   subst this h1 h2
   exact ok_ref01_Share
 simp only [h, Bool.false_eq_true, if_false] at h1 h2
 by_cases h : (93 == f) = true
 · simp only [h, if_true, Option.some.injEq] at h1 h2
   have := eq_of_beq h
   subst this h1 h2
   exact ok_ref23_By
 simp only [h, Bool.false_eq_true, if_false] at h1 h2
 by_cases h : (51 == f) = true
 · simp only [h, if_true, Option.some.injEq] at h1 h2
   have := eq_of_beq h
   subst this h1 h2
   exact ok_ref24_gives
 simp only [h, Bool.false_eq_true, if_false] at h1 h2
 by_cases h : (21 == f) = true
 · simp only [h, if_true, Option.some.injEq] at h1 h2
   have := eq_of_beq h
   subst this h1 h2
   exact ok_ref24_turn
 simp only [h, Bool.false_eq_true, if_false] at h1 h2
 by_cases h : (22 == f) = true
 · simp only [h, if_true, Option.some.injEq] at h1 h2
   have := eq_of_beq h
   subst this h1 h2
   exact ok_ref24_raised
 simp only [h, Bool.false_eq_true, if_false] at h1 h2
 by_cases h : (20 == f) = true
 · simp only [h, if_true, Option.some.injEq] at h1 h2
   have := eq_of_beq h
   subst this h1 h2
   exact ok_ref24_several
 simp only [h, Bool.false_eq_true, if_false] at h1 h2
 by_cases h : (7 == f) = true
 · simp only [h, if_true, Option.some.injEq] at h1 h2
   have := eq_of_beq h
   subst this h1 h2
   exact ok_ref24_Size
 simp only [h, Bool.false_eq_true, if_false] at h1 h2
 by_cases h : (8 == f) = true
 · simp only [h, if_true, Option.some.injEq] at h1 h2
   have := eq_of_beq h
   subst this h1 h2
   exact ok_ref22_Same
 simp only [h, Bool.false_eq_true, if_false] at h1 h2
 by_cases h : (5 == f) = true
 · simp only [h, if_true, Option.some.injEq] at h1 h2
   have := eq_of_beq h
   subst this h1 h2
   exact ok_law24_lives
 simp only [h, Bool.false_eq_true, if_false] at h1 h2
 by_cases h : (3 == f) = true
 · simp only [h, if_true, Option.some.injEq] at h1 h2
   have := eq_of_beq h
   subst this h1 h2
   exact ok_law24_IntrinsicSizes
 simp only [h, Bool.false_eq_true, if_false] at h1 h2
 cases h1
end Go.Proofs.YtbebnjiolaomdaaGreat.T
