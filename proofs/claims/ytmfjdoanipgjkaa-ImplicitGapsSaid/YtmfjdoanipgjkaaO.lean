/- All trees that are written down are what the runner makes of the program's code. No condition. -/
import Derived.Test.YtmfjdoanipgjkaaO1
import Derived.Test.YtmfjdoanipgjkaaO2
import Derived.Test.YtmfjdoanipgjkaaO3
set_option maxRecDepth 100000
set_option linter.unusedVariables false
namespace Go.Proofs.Ytmfjdoanipgjkaa.T
open Go Go.Proofs.Ytmfjdoanipgjkaa.Sx Go.Proofs
theorem all_ok : ∀ f sg' t, sg f = some sg' → tr f = some t → (treeOf Try.prog sg (sxDrawn Try.prog sg) 6 f sg').same t = true := by
  intro f sg' t h1 h2
  simp only [sg, tr, sigL, trL, Go.Proofs.Ytmfjdoanipgjkaa.Sx.look] at h1 h2
  by_cases h : (13 == f) = true
  · simp only [h, if_true, Option.some.injEq] at h1 h2
    have := eq_of_beq h
    subst this h1 h2
    exact ok_law21_px
  simp only [h, Bool.false_eq_true, if_false] at h1 h2
  by_cases h : (43 == f) = true
  · simp only [h, if_true, Option.some.injEq] at h1 h2
    have := eq_of_beq h
    subst this h1 h2
    exact ok_occupy_Overlap_1
  simp only [h, Bool.false_eq_true, if_false] at h1 h2
  by_cases h : (44 == f) = true
  · simp only [h, if_true, Option.some.injEq] at h1 h2
    have := eq_of_beq h
    subst this h1 h2
    exact ok_occupy_good_1
  simp only [h, Bool.false_eq_true, if_false] at h1 h2
  by_cases h : (45 == f) = true
  · simp only [h, if_true, Option.some.injEq] at h1 h2
    have := eq_of_beq h
    subst this h1 h2
    exact ok_occupy_good_2
  simp only [h, Bool.false_eq_true, if_false] at h1 h2
  by_cases h : (42 == f) = true
  · simp only [h, if_true, Option.some.injEq] at h1 h2
    have := eq_of_beq h
    subst this h1 h2
    exact ok_occupy_good
  simp only [h, Bool.false_eq_true, if_false] at h1 h2
  by_cases h : (41 == f) = true
  · simp only [h, if_true, Option.some.injEq] at h1 h2
    have := eq_of_beq h
    subst this h1 h2
    exact ok_occupy_Overlap
  simp only [h, Bool.false_eq_true, if_false] at h1 h2
  by_cases h : (33 == f) = true
  · simp only [h, if_true, Option.some.injEq] at h1 h2
    have := eq_of_beq h
    subst this h1 h2
    exact ok_occupy_Free
  simp only [h, Bool.false_eq_true, if_false] at h1 h2
  by_cases h : (34 == f) = true
  · simp only [h, if_true, Option.some.injEq] at h1 h2
    have := eq_of_beq h
    subst this h1 h2
    exact ok_implicit_side
  simp only [h, Bool.false_eq_true, if_false] at h1 h2
  by_cases h : (21 == f) = true
  · simp only [h, if_true, Option.some.injEq] at h1 h2
    have := eq_of_beq h
    subst this h1 h2
    exact ok_implicit_Bounds
  simp only [h, Bool.false_eq_true, if_false] at h1 h2
  by_cases h : (35 == f) = true
  · simp only [h, if_true, Option.some.injEq] at h1 h2
    have := eq_of_beq h
    subst this h1 h2
    exact ok_fixed_Div
  simp only [h, Bool.false_eq_true, if_false] at h1 h2
  by_cases h : (23 == f) = true
  · simp only [h, if_true, Option.some.injEq] at h1 h2
    have := eq_of_beq h
    subst this h1 h2
    exact ok_fixed_Mod
  simp only [h, Bool.false_eq_true, if_false] at h1 h2
  by_cases h : (36 == f) = true
  · simp only [h, if_true, Option.some.injEq] at h1 h2
    have := eq_of_beq h
    subst this h1 h2
    exact ok_track_auto
  simp only [h, Bool.false_eq_true, if_false] at h1 h2
  by_cases h : (24 == f) = true
  · simp only [h, if_true, Option.some.injEq] at h1 h2
    have := eq_of_beq h
    subst this h1 h2
    exact ok_track_fit
  simp only [h, Bool.false_eq_true, if_false] at h1 h2
  by_cases h : (25 == f) = true
  · simp only [h, if_true, Option.some.injEq] at h1 h2
    have := eq_of_beq h
    subst this h1 h2
    exact ok_track_isLen
  simp only [h, Bool.false_eq_true, if_false] at h1 h2
  by_cases h : (38 == f) = true
  · simp only [h, if_true, Option.some.injEq] at h1 h2
    have := eq_of_beq h
    subst this h1 h2
    exact ok_value_keyBit
  simp only [h, Bool.false_eq_true, if_false] at h1 h2
  by_cases h : (26 == f) = true
  · simp only [h, if_true, Option.some.injEq] at h1 h2
    have := eq_of_beq h
    subst this h1 h2
    exact ok_value_Good
  simp only [h, Bool.false_eq_true, if_false] at h1 h2
  by_cases h : (14 == f) = true
  · simp only [h, if_true, Option.some.injEq] at h1 h2
    have := eq_of_beq h
    subst this h1 h2
    exact ok_track_Right
  simp only [h, Bool.false_eq_true, if_false] at h1 h2
  by_cases h : (18 == f) = true
  · simp only [h, if_true, Option.some.injEq] at h1 h2
    have := eq_of_beq h
    subst this h1 h2
    exact ok_implicit_Tracks_1
  simp only [h, Bool.false_eq_true, if_false] at h1 h2
  by_cases h : (30 == f) = true
  · simp only [h, if_true, Option.some.injEq] at h1 h2
    have := eq_of_beq h
    subst this h1 h2
    exact ok_expand_Good_1
  simp only [h, Bool.false_eq_true, if_false] at h1 h2
  by_cases h : (19 == f) = true
  · simp only [h, if_true, Option.some.injEq] at h1 h2
    have := eq_of_beq h
    subst this h1 h2
    exact ok_expand_Good
  simp only [h, Bool.false_eq_true, if_false] at h1 h2
  by_cases h : (27 == f) = true
  · simp only [h, if_true, Option.some.injEq] at h1 h2
    have := eq_of_beq h
    subst this h1 h2
    exact ok_fixed_Is
  simp only [h, Bool.false_eq_true, if_false] at h1 h2
  by_cases h : (15 == f) = true
  · simp only [h, if_true, Option.some.injEq] at h1 h2
    have := eq_of_beq h
    subst this h1 h2
    exact ok_implicit_within
  simp only [h, Bool.false_eq_true, if_false] at h1 h2
  by_cases h : (11 == f) = true
  · simp only [h, if_true, Option.some.injEq] at h1 h2
    have := eq_of_beq h
    subst this h1 h2
    exact ok_implicit_Tracks
  simp only [h, Bool.false_eq_true, if_false] at h1 h2
  by_cases h : (8 == f) = true
  · simp only [h, if_true, Option.some.injEq] at h1 h2
    have := eq_of_beq h
    subst this h1 h2
    exact ok_implicit_Total
  simp only [h, Bool.false_eq_true, if_false] at h1 h2
  by_cases h : (6 == f) = true
  · simp only [h, if_true, Option.some.injEq] at h1 h2
    have := eq_of_beq h
    subst this h1 h2
    exact ok_implicit_Good
  simp only [h, Bool.false_eq_true, if_false] at h1 h2
  by_cases h : (5 == f) = true
  · simp only [h, if_true, Option.some.injEq] at h1 h2
    have := eq_of_beq h
    subst this h1 h2
    exact ok_law21_lives
  simp only [h, Bool.false_eq_true, if_false] at h1 h2
  by_cases h : (28 == f) = true
  · simp only [h, if_true, Option.some.injEq] at h1 h2
    have := eq_of_beq h
    subst this h1 h2
    exact ok_ref06_isLen
  simp only [h, Bool.false_eq_true, if_false] at h1 h2
  by_cases h : (39 == f) = true
  · simp only [h, if_true, Option.some.injEq] at h1 h2
    have := eq_of_beq h
    subst this h1 h2
    exact ok_ref05_bits
  simp only [h, Bool.false_eq_true, if_false] at h1 h2
  by_cases h : (40 == f) = true
  · simp only [h, if_true, Option.some.injEq] at h1 h2
    have := eq_of_beq h
    subst this h1 h2
    exact ok_ref05_Has
  simp only [h, Bool.false_eq_true, if_false] at h1 h2
  by_cases h : (29 == f) = true
  · simp only [h, if_true, Option.some.injEq] at h1 h2
    have := eq_of_beq h
    subst this h1 h2
    exact ok_ref05_Good
  simp only [h, Bool.false_eq_true, if_false] at h1 h2
  by_cases h : (16 == f) = true
  · simp only [h, if_true, Option.some.injEq] at h1 h2
    have := eq_of_beq h
    subst this h1 h2
    exact ok_ref06_Right
  simp only [h, Bool.false_eq_true, if_false] at h1 h2
  by_cases h : (17 == f) = true
  · simp only [h, if_true, Option.some.injEq] at h1 h2
    have := eq_of_beq h
    subst this h1 h2
    exact ok_ref21_within
  simp only [h, Bool.false_eq_true, if_false] at h1 h2
  by_cases h : (7 == f) = true
  · simp only [h, if_true, Option.some.injEq] at h1 h2
    have := eq_of_beq h
    subst this h1 h2
    exact ok_ref21_Good
  simp only [h, Bool.false_eq_true, if_false] at h1 h2
  by_cases h : (9 == f) = true
  · simp only [h, if_true, Option.some.injEq] at h1 h2
    have := eq_of_beq h
    subst this h1 h2
    exact ok_ref21_Total
  simp only [h, Bool.false_eq_true, if_false] at h1 h2
  by_cases h : (3 == f) = true
  · simp only [h, if_true, Option.some.injEq] at h1 h2
    have := eq_of_beq h
    subst this h1 h2
    exact ok_law21_ImplicitGood
  simp only [h, Bool.false_eq_true, if_false] at h1 h2
  by_cases h : (10 == f) = true
  · simp only [h, if_true, Option.some.injEq] at h1 h2
    have := eq_of_beq h
    subst this h1 h2
    exact ok_law21_light
  simp only [h, Bool.false_eq_true, if_false] at h1 h2
  by_cases h : (12 == f) = true
  · simp only [h, if_true, Option.some.injEq] at h1 h2
    have := eq_of_beq h
    subst this h1 h2
    exact ok_ref19_Good
  simp only [h, Bool.false_eq_true, if_false] at h1 h2
  by_cases h : (4 == f) = true
  · simp only [h, if_true, Option.some.injEq] at h1 h2
    have := eq_of_beq h
    subst this h1 h2
    exact ok_law21_ImplicitGaps
  simp only [h, Bool.false_eq_true, if_false] at h1 h2
  cases h1
end Go.Proofs.Ytmfjdoanipgjkaa.T
