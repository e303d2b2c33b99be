/- All trees that are written down are what the runner makes of the program's code. No condition. -/
import Derived.Test.YtckjdlmfibjpaaaGreatO1
import Derived.Test.YtckjdlmfibjpaaaGreatO2
import Derived.Test.YtckjdlmfibjpaaaGreatO3
import Derived.Test.YtckjdlmfibjpaaaGreatO4
set_option maxRecDepth 100000
set_option linter.unusedVariables false
namespace Go.Proofs.YtckjdlmfibjpaaaGreat.T
open Go Go.Proofs.YtckjdlmfibjpaaaGreat.Sx Go.Proofs
theorem all_ok : ∀ f sg' t, sg f = some sg' → tr f = some t → ∃ orc, (treeOf Tryz.prog sg (ofOrc orc) (sxDrawn Tryz.prog sg) 6 f sg').same t = true := by
 intro f sg' t h1 h2
 simp only [sg, tr, sigL, trL, Go.Proofs.YtckjdlmfibjpaaaGreat.Sx.look] at h1 h2
 by_cases h : (8 == f) = true
 · simp only [h, if_true, Option.some.injEq] at h1 h2
   have := eq_of_beq h
   subst this h1 h2
   exact ok_law27_light
 simp only [h, Bool.false_eq_true, if_false] at h1 h2
 by_cases h : (146 == f) = true
 · simp only [h, if_true, Option.some.injEq] at h1 h2
   have := eq_of_beq h
   subst this h1 h2
   exact ok_track_auto
 simp only [h, Bool.false_eq_true, if_false] at h1 h2
 by_cases h : (87 == f) = true
 · simp only [h, if_true, Option.some.injEq] at h1 h2
   have := eq_of_beq h
   subst this h1 h2
   exact ok_track_fit
 simp only [h, Bool.false_eq_true, if_false] at h1 h2
 by_cases h : (88 == f) = true
 · simp only [h, if_true, Option.some.injEq] at h1 h2
   have := eq_of_beq h
   subst this h1 h2
   exact ok_track_isLen
 simp only [h, Bool.false_eq_true, if_false] at h1 h2
 by_cases h : (148 == f) = true
 · simp only [h, if_true, Option.some.injEq] at h1 h2
   have := eq_of_beq h
   subst this h1 h2
   exact ok_value_keyBit
 simp only [h, Bool.false_eq_true, if_false] at h1 h2
 by_cases h : (89 == f) = true
 · simp only [h, if_true, Option.some.injEq] at h1 h2
   have := eq_of_beq h
   subst this h1 h2
   exact ok_value_Good
 simp only [h, Bool.false_eq_true, if_false] at h1 h2
 by_cases h : (35 == f) = true
 · simp only [h, if_true, Option.some.injEq] at h1 h2
   have := eq_of_beq h
   subst this h1 h2
   exact ok_track_Right
 simp only [h, Bool.false_eq_true, if_false] at h1 h2
 by_cases h : (34 == f) = true
 · simp only [h, if_true, Option.some.injEq] at h1 h2
   have := eq_of_beq h
   subst this h1 h2
   exact ok_fixed_Is
 simp only [h, Bool.false_eq_true, if_false] at h1 h2
 by_cases h : (36 == f) = true
 · simp only [h, if_true, Option.some.injEq] at h1 h2
   have := eq_of_beq h
   subst this h1 h2
   exact ok_implicit_within
 simp only [h, Bool.false_eq_true, if_false] at h1 h2
 by_cases h : (16 == f) = true
 · simp only [h, if_true, Option.some.injEq] at h1 h2
   have := eq_of_beq h
   subst this h1 h2
   exact ok_implicit_Good
 simp only [h, Bool.false_eq_true, if_false] at h1 h2
 by_cases h : (121 == f) = true
 · simp only [h, if_true, Option.some.injEq] at h1 h2
   have := eq_of_beq h
   subst this h1 h2
   exact ok_fixed_size
 simp only [h, Bool.false_eq_true, if_false] at h1 h2
 by_cases h : (120 == f) = true
 · simp only [h, if_true, Option.some.injEq] at h1 h2
   have := eq_of_beq h
   subst this h1 h2
   exact ok_math_bits_Mul64
 simp only [h, Bool.false_eq_true, if_false] at h1 h2
 by_cases h : (171 == f) = true
 · simp only [h, if_true, Option.some.injEq] at h1 h2
   have := eq_of_beq h
   subst this h1 h2
   exact ok_math_bits_Len64
 simp only [h, Bool.false_eq_true, if_false] at h1 h2
 by_cases h : (180 == f) = true
 · simp only [h, if_true, Option.some.injEq] at h1 h2
   have := eq_of_beq h
   subst this h1 h2
   exact ok_math_bits_LeadingZeros64
 simp only [h, Bool.false_eq_true, if_false] at h1 h2
 by_cases h : (122 == f) = true
 · simp only [h, if_true, Option.some.injEq] at h1 h2
   have := eq_of_beq h
   subst this h1 h2
   exact ok_math_bits_Div64
 simp only [h, Bool.false_eq_true, if_false] at h1 h2
 by_cases h : (64 == f) = true
 · simp only [h, if_true, Option.some.injEq] at h1 h2
   have := eq_of_beq h
   subst this h1 h2
   exact ok_fixed_MulDiv
 simp only [h, Bool.false_eq_true, if_false] at h1 h2
 by_cases h : (149 == f) = true
 · simp only [h, if_true, Option.some.injEq] at h1 h2
   have := eq_of_beq h
   subst this h1 h2
   exact ok_fixed_Percent
 simp only [h, Bool.false_eq_true, if_false] at h1 h2
 by_cases h : (90 == f) = true
 · simp only [h, if_true, Option.some.injEq] at h1 h2
   have := eq_of_beq h
   subst this h1 h2
   exact ok_value_Resolve
 simp only [h, Bool.false_eq_true, if_false] at h1 h2
 by_cases h : (91 == f) = true
 · simp only [h, if_true, Option.some.injEq] at h1 h2
   have := eq_of_beq h
   subst this h1 h2
   exact ok_base_kind
 simp only [h, Bool.false_eq_true, if_false] at h1 h2
 by_cases h : (61 == f) = true
 · simp only [h, if_true, Option.some.injEq] at h1 h2
   have := eq_of_beq h
   subst this h1 h2
   exact ok_base_Raise
 simp only [h, Bool.false_eq_true, if_false] at h1 h2
 by_cases h : (37 == f) = true
 · simp only [h, if_true, Option.some.injEq] at h1 h2
   have := eq_of_beq h
   subst this h1 h2
   exact ok_base_Start
 simp only [h, Bool.false_eq_true, if_false] at h1 h2
 by_cases h : (18 == f) = true
 · simp only [h, if_true, Option.some.injEq] at h1 h2
   have := eq_of_beq h
   subst this h1 h2
   exact ok_base_All
 simp only [h, Bool.false_eq_true, if_false] at h1 h2
 by_cases h : (95 == f) = true
 · simp only [h, if_true, Option.some.injEq] at h1 h2
   have := eq_of_beq h
   subst this h1 h2
   exact ok_intrinsic_within
 simp only [h, Bool.false_eq_true, if_false] at h1 h2
 by_cases h : (94 == f) = true
 · simp only [h, if_true, Option.some.injEq] at h1 h2
   have := eq_of_beq h
   subst this h1 h2
   exact ok_intrinsic_Good_2
 simp only [h, Bool.false_eq_true, if_false] at h1 h2
 by_cases h : (150 == f) = true
 · simp only [h, if_true, Option.some.injEq] at h1 h2
   have := eq_of_beq h
   subst this h1 h2
   exact ok_base_Good_1
 simp only [h, Bool.false_eq_true, if_false] at h1 h2
 by_cases h : (93 == f) = true
 · simp only [h, if_true, Option.some.injEq] at h1 h2
   have := eq_of_beq h
   subst this h1 h2
   exact ok_base_Good
 simp only [h, Bool.false_eq_true, if_false] at h1 h2
 by_cases h : (92 == f) = true
 · simp only [h, if_true, Option.some.injEq] at h1 h2
   have := eq_of_beq h
   subst this h1 h2
   exact ok_intrinsic_Good_1
 simp only [h, Bool.false_eq_true, if_false] at h1 h2
 by_cases h : (38 == f) = true
 · simp only [h, if_true, Option.some.injEq] at h1 h2
   have := eq_of_beq h
   subst this h1 h2
   exact ok_intrinsic_Good
 simp only [h, Bool.false_eq_true, if_false] at h1 h2
 by_cases h : (39 == f) = true
 · simp only [h, if_true, Option.some.injEq] at h1 h2
   have := eq_of_beq h
   subst this h1 h2
   exact ok_slices_Clone___api_Sizing_api_Sizing_
 simp only [h, Bool.false_eq_true, if_false] at h1 h2
 by_cases h : (102 == f) = true
 · simp only [h, if_true, Option.some.injEq] at h1 h2
   have := eq_of_beq h
   subst this h1 h2
   exact ok_intrinsic_loose
 simp only [h, Bool.false_eq_true, if_false] at h1 h2
 by_cases h : (105 == f) = true
 · simp only [h, if_true, Option.some.injEq] at h1 h2
   have := eq_of_beq h
   subst this h1 h2
   exact ok_intrinsic_limit
 simp only [h, Bool.false_eq_true, if_false] at h1 h2
 by_cases h : (151 == f) = true
 · simp only [h, if_true, Option.some.injEq] at h1 h2
   have := eq_of_beq h
   subst this h1 h2
   exact ok_pintrinsic_sizer_rounds_1
 simp only [h, Bool.false_eq_true, if_false] at h1 h2
 by_cases h : (97 == f) = true
 · simp only [h, if_true, Option.some.injEq] at h1 h2
   have := eq_of_beq h
   subst this h1 h2
   exact ok_intrinsic_content
 simp only [h, Bool.false_eq_true, if_false] at h1 h2
 by_cases h : (42 == f) = true
 · simp only [h, if_true, Option.some.injEq] at h1 h2
   have := eq_of_beq h
   subst this h1 h2
   exact ok_intrinsic_Size_1
 simp only [h, Bool.false_eq_true, if_false] at h1 h2
 by_cases h : (107 == f) = true
 · simp only [h, if_true, Option.some.injEq] at h1 h2
   have := eq_of_beq h
   subst this h1 h2
   exact ok_pintrinsic_sizer_bases_2
 simp only [h, Bool.false_eq_true, if_false] at h1 h2
 by_cases h : (158 == f) = true
 · simp only [h, if_true, Option.some.injEq] at h1 h2
   have := eq_of_beq h
   subst this h1 h2
   exact ok_pintrinsic_sizer_rounds_7
 simp only [h, Bool.false_eq_true, if_false] at h1 h2
 by_cases h : (115 == f) = true
 · simp only [h, if_true, Option.some.injEq] at h1 h2
   have := eq_of_beq h
   subst this h1 h2
   exact ok_spread_right
 simp only [h, Bool.false_eq_true, if_false] at h1 h2
 by_cases h : (116 == f) = true
 · simp only [h, if_true, Option.some.injEq] at h1 h2
   have := eq_of_beq h
   subst this h1 h2
   exact ok_spread_rooms
 simp only [h, Bool.false_eq_true, if_false] at h1 h2
 by_cases h : (50 == f) = true
 · simp only [h, if_true, Option.some.injEq] at h1 h2
   have := eq_of_beq h
   subst this h1 h2
   exact ok_spread_Up
 simp only [h, Bool.false_eq_true, if_false] at h1 h2
 by_cases h : (59 == f) = true
 · simp only [h, if_true, Option.some.injEq] at h1 h2
   have := eq_of_beq h
   subst this h1 h2
   exact ok_fixed_Split
 simp only [h, Bool.false_eq_true, if_false] at h1 h2
 by_cases h : (178 == f) = true
 · simp only [h, if_true, Option.some.injEq] at h1 h2
   have := eq_of_beq h
   subst this h1 h2
   exact ok_spread_Fill
 simp only [h, Bool.false_eq_true, if_false] at h1 h2
 by_cases h : (160 == f) = true
 · simp only [h, if_true, Option.some.injEq] at h1 h2
   have := eq_of_beq h
   subst this h1 h2
   exact ok_pintrinsic_sizer_rounds_9
 simp only [h, Bool.false_eq_true, if_false] at h1 h2
 by_cases h : (159 == f) = true
 · simp only [h, if_true, Option.some.injEq] at h1 h2
   have := eq_of_beq h
   subst this h1 h2
   exact ok_pintrinsic_sizer_rounds_8
 simp only [h, Bool.false_eq_true, if_false] at h1 h2
 by_cases h : (154 == f) = true
 · simp only [h, if_true, Option.some.injEq] at h1 h2
   have := eq_of_beq h
   subst this h1 h2
   exact ok_pintrinsic_sizer_rounds_3
 simp only [h, Bool.false_eq_true, if_false] at h1 h2
 by_cases h : (157 == f) = true
 · simp only [h, if_true, Option.some.injEq] at h1 h2
   have := eq_of_beq h
   subst this h1 h2
   exact ok_pintrinsic_sizer_rounds_6
 simp only [h, Bool.false_eq_true, if_false] at h1 h2
 by_cases h : (155 == f) = true
 · simp only [h, if_true, Option.some.injEq] at h1 h2
   have := eq_of_beq h
   subst this h1 h2
   exact ok_pintrinsic_sizer_rounds_4
 simp only [h, Bool.false_eq_true, if_false] at h1 h2
 by_cases h : (103 == f) = true
 · simp only [h, if_true, Option.some.injEq] at h1 h2
   have := eq_of_beq h
   subst this h1 h2
   exact ok_pintrinsic_sizer_several_1
 simp only [h, Bool.false_eq_true, if_false] at h1 h2
 by_cases h : (172 == f) = true
 · simp only [h, if_true, Option.some.injEq] at h1 h2
   have := eq_of_beq h
   subst this h1 h2
   exact ok_pintrinsic_sizer_limits_1
 simp only [h, Bool.false_eq_true, if_false] at h1 h2
 by_cases h : (173 == f) = true
 · simp only [h, if_true, Option.some.injEq] at h1 h2
   have := eq_of_beq h
   subst this h1 h2
   exact ok_pintrinsic_sizer_limits_2
 simp only [h, Bool.false_eq_true, if_false] at h1 h2
 by_cases h : (104 == f) = true
 · simp only [h, if_true, Option.some.injEq] at h1 h2
   have := eq_of_beq h
   subst this h1 h2
   exact ok_pintrinsic_sizer_several_2
 simp only [h, Bool.false_eq_true, if_false] at h1 h2
 by_cases h : (57 == f) = true
 · simp only [h, if_true, Option.some.injEq] at h1 h2
   have := eq_of_beq h
   subst this h1 h2
   exact ok_fixed_Share
 simp only [h, Bool.false_eq_true, if_false] at h1 h2
 by_cases h : (112 == f) = true
 · simp only [h, if_true, Option.some.injEq] at h1 h2
   have := eq_of_beq h
   subst this h1 h2
   exact ok_spread_By
 simp only [h, Bool.false_eq_true, if_false] at h1 h2
 by_cases h : (19 == f) = true
 · simp only [h, if_true, Option.some.injEq] at h1 h2
   have := eq_of_beq h
   subst this h1 h2
   exact ok_intrinsic_Size
 simp only [h, Bool.false_eq_true, if_false] at h1 h2
 by_cases h : (113 == f) = true
 · simp only [h, if_true, Option.some.injEq] at h1 h2
   have := eq_of_beq h
   subst this h1 h2
   exact ok_maximise_good_1
 simp only [h, Bool.false_eq_true, if_false] at h1 h2
 by_cases h : (46 == f) = true
 · simp only [h, if_true, Option.some.injEq] at h1 h2
   have := eq_of_beq h
   subst this h1 h2
   exact ok_maximise_good
 simp only [h, Bool.false_eq_true, if_false] at h1 h2
 by_cases h : (49 == f) = true
 · simp only [h, if_true, Option.some.injEq] at h1 h2
   have := eq_of_beq h
   subst this h1 h2
   exact ok_maximise_within
 simp only [h, Bool.false_eq_true, if_false] at h1 h2
 by_cases h : (48 == f) = true
 · simp only [h, if_true, Option.some.injEq] at h1 h2
   have := eq_of_beq h
   subst this h1 h2
   exact ok_maximise_Total_1
 simp only [h, Bool.false_eq_true, if_false] at h1 h2
 by_cases h : (21 == f) = true
 · simp only [h, if_true, Option.some.injEq] at h1 h2
   have := eq_of_beq h
   subst this h1 h2
   exact ok_maximise_Total
 simp only [h, Bool.false_eq_true, if_false] at h1 h2
 by_cases h : (55 == f) = true
 · simp only [h, if_true, Option.some.injEq] at h1 h2
   have := eq_of_beq h
   subst this h1 h2
   exact ok_flex_less
 simp only [h, Bool.false_eq_true, if_false] at h1 h2
 by_cases h : (56 == f) = true
 · simp only [h, if_true, Option.some.injEq] at h1 h2
   have := eq_of_beq h
   subst this h1 h2
   exact ok_flex_share_part
 simp only [h, Bool.false_eq_true, if_false] at h1 h2
 by_cases h : (54 == f) = true
 · simp only [h, if_true, Option.some.injEq] at h1 h2
   have := eq_of_beq h
   subst this h1 h2
   exact ok_flex_shared
 simp only [h, Bool.false_eq_true, if_false] at h1 h2
 by_cases h : (118 == f) = true
 · simp only [h, if_true, Option.some.injEq] at h1 h2
   have := eq_of_beq h
   subst this h1 h2
   exact ok_flex_right_1
 simp only [h, Bool.false_eq_true, if_false] at h1 h2
 by_cases h : (53 == f) = true
 · simp only [h, if_true, Option.some.injEq] at h1 h2
   have := eq_of_beq h
   subst this h1 h2
   exact ok_flex_right
 simp only [h, Bool.false_eq_true, if_false] at h1 h2
 by_cases h : (23 == f) = true
 · simp only [h, if_true, Option.some.injEq] at h1 h2
   have := eq_of_beq h
   subst this h1 h2
   exact ok_flex_Fill
 simp only [h, Bool.false_eq_true, if_false] at h1 h2
 by_cases h : (24 == f) = true
 · simp only [h, if_true, Option.some.injEq] at h1 h2
   have := eq_of_beq h
   subst this h1 h2
   exact ok_maximise_Stretch
 simp only [h, Bool.false_eq_true, if_false] at h1 h2
 by_cases h : (22 == f) = true
 · simp only [h, if_true, Option.some.injEq] at h1 h2
   have := eq_of_beq h
   subst this h1 h2
   exact ok_maximise_Grow
 simp only [h, Bool.false_eq_true, if_false] at h1 h2
 by_cases h : (26 == f) = true
 · simp only [h, if_true, Option.some.injEq] at h1 h2
   have := eq_of_beq h
   subst this h1 h2
   exact ok_maximise_Full
 simp only [h, Bool.false_eq_true, if_false] at h1 h2
 by_cases h : (62 == f) = true
 · simp only [h, if_true, Option.some.injEq] at h1 h2
   have := eq_of_beq h
   subst this h1 h2
   exact ok_flex_up
 simp only [h, Bool.false_eq_true, if_false] at h1 h2
 by_cases h : (63 == f) = true
 · simp only [h, if_true, Option.some.injEq] at h1 h2
   have := eq_of_beq h
   subst this h1 h2
   exact ok_flex_Unit
 simp only [h, Bool.false_eq_true, if_false] at h1 h2
 by_cases h : (25 == f) = true
 · simp only [h, if_true, Option.some.injEq] at h1 h2
   have := eq_of_beq h
   subst this h1 h2
   exact ok_flex_Grow
 simp only [h, Bool.false_eq_true, if_false] at h1 h2
 by_cases h : (17 == f) = true
 · simp only [h, if_true, Option.some.injEq] at h1 h2
   have := eq_of_beq h
   subst this h1 h2
   exact ok_tracks_within
 simp only [h, Bool.false_eq_true, if_false] at h1 h2
 by_cases h : (10 == f) = true
 · simp only [h, if_true, Option.some.injEq] at h1 h2
   have := eq_of_beq h
   subst this h1 h2
   exact ok_tracks_Size
 simp only [h, Bool.false_eq_true, if_false] at h1 h2
 by_cases h : (15 == f) = true
 · simp only [h, if_true, Option.some.injEq] at h1 h2
   have := eq_of_beq h
   subst this h1 h2
   exact ok_law27_px
 simp only [h, Bool.false_eq_true, if_false] at h1 h2
 by_cases h : (13 == f) = true
 · simp only [h, if_true, Option.some.injEq] at h1 h2
   have := eq_of_beq h
   subst this h1 h2
   exact ok_tracks_Sum
 simp only [h, Bool.false_eq_true, if_false] at h1 h2
 by_cases h : (12 == f) = true
 · simp only [h, if_true, Option.some.injEq] at h1 h2
   have := eq_of_beq h
   subst this h1 h2
   exact ok_ref01_Ints
 simp only [h, Bool.false_eq_true, if_false] at h1 h2
 by_cases h : (9 == f) = true
 · simp only [h, if_true, Option.some.injEq] at h1 h2
   have := eq_of_beq h
   subst this h1 h2
   exact ok_law27_lives
 simp only [h, Bool.false_eq_true, if_false] at h1 h2
 by_cases h : (5 == f) = true
 · simp only [h, if_true, Option.some.injEq] at h1 h2
   have := eq_of_beq h
   subst this h1 h2
   exact ok_law27_TracksFixed
 simp only [h, Bool.false_eq_true, if_false] at h1 h2
 by_cases h : (6 == f) = true
 · simp only [h, if_true, Option.some.injEq] at h1 h2
   have := eq_of_beq h
   subst this h1 h2
   exact ok_law27_TracksFull
 simp only [h, Bool.false_eq_true, if_false] at h1 h2
 by_cases h : (7 == f) = true
 · simp only [h, if_true, Option.some.injEq] at h1 h2
   have := eq_of_beq h
   subst this h1 h2
   exact ok_law27_TracksEnough
 simp only [h, Bool.false_eq_true, if_false] at h1 h2
 cases h1
end Go.Proofs.YtckjdlmfibjpaaaGreat.T
