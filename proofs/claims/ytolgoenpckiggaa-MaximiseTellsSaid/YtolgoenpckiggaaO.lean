/- All trees that are written down are what the runner makes of the program's code. No condition. -/
import Derived.Test.YtolgoenpckiggaaO1
import Derived.Test.YtolgoenpckiggaaO2
import Derived.Test.YtolgoenpckiggaaO3
set_option maxRecDepth 100000
set_option linter.unusedVariables false
namespace Go.Proofs.Ytolgoenpckiggaa.T
open Go Go.Proofs.Ytolgoenpckiggaa.Sx Go.Proofs
theorem all_ok : ∀ f sg' t, sg f = some sg' → tr f = some t → (treeOf Try.prog sg (sxDrawn Try.prog sg) 6 f sg').same t = true := by
  intro f sg' t h1 h2
  simp only [sg, tr, sigL, trL, Go.Proofs.Ytolgoenpckiggaa.Sx.look] at h1 h2
  by_cases h : (37 == f) = true
  · simp only [h, if_true, Option.some.injEq] at h1 h2
    have := eq_of_beq h
    subst this h1 h2
    exact ok_spread_right
  simp only [h, Bool.false_eq_true, if_false] at h1 h2
  by_cases h : (38 == f) = true
  · simp only [h, if_true, Option.some.injEq] at h1 h2
    have := eq_of_beq h
    subst this h1 h2
    exact ok_spread_rooms
  simp only [h, Bool.false_eq_true, if_false] at h1 h2
  by_cases h : (20 == f) = true
  · simp only [h, if_true, Option.some.injEq] at h1 h2
    have := eq_of_beq h
    subst this h1 h2
    exact ok_spread_Up
  simp only [h, Bool.false_eq_true, if_false] at h1 h2
  by_cases h : (44 == f) = true
  · simp only [h, if_true, Option.some.injEq] at h1 h2
    have := eq_of_beq h
    subst this h1 h2
    exact ok_base_Good_1
  simp only [h, Bool.false_eq_true, if_false] at h1 h2
  by_cases h : (36 == f) = true
  · simp only [h, if_true, Option.some.injEq] at h1 h2
    have := eq_of_beq h
    subst this h1 h2
    exact ok_base_Good
  simp only [h, Bool.false_eq_true, if_false] at h1 h2
  by_cases h : (35 == f) = true
  · simp only [h, if_true, Option.some.injEq] at h1 h2
    have := eq_of_beq h
    subst this h1 h2
    exact ok_maximise_good_1
  simp only [h, Bool.false_eq_true, if_false] at h1 h2
  by_cases h : (18 == f) = true
  · simp only [h, if_true, Option.some.injEq] at h1 h2
    have := eq_of_beq h
    subst this h1 h2
    exact ok_maximise_good
  simp only [h, Bool.false_eq_true, if_false] at h1 h2
  by_cases h : (29 == f) = true
  · simp only [h, if_true, Option.some.injEq] at h1 h2
    have := eq_of_beq h
    subst this h1 h2
    exact ok_fixed_Is
  simp only [h, Bool.false_eq_true, if_false] at h1 h2
  by_cases h : (19 == f) = true
  · simp only [h, if_true, Option.some.injEq] at h1 h2
    have := eq_of_beq h
    subst this h1 h2
    exact ok_maximise_within
  simp only [h, Bool.false_eq_true, if_false] at h1 h2
  by_cases h : (8 == f) = true
  · simp only [h, if_true, Option.some.injEq] at h1 h2
    have := eq_of_beq h
    subst this h1 h2
    exact ok_maximise_Grow
  simp only [h, Bool.false_eq_true, if_false] at h1 h2
  by_cases h : (7 == f) = true
  · simp only [h, if_true, Option.some.injEq] at h1 h2
    have := eq_of_beq h
    subst this h1 h2
    exact ok_law25_lives
  simp only [h, Bool.false_eq_true, if_false] at h1 h2
  by_cases h : (17 == f) = true
  · simp only [h, if_true, Option.some.injEq] at h1 h2
    have := eq_of_beq h
    subst this h1 h2
    exact ok_ref22_Good
  simp only [h, Bool.false_eq_true, if_false] at h1 h2
  by_cases h : (6 == f) = true
  · simp only [h, if_true, Option.some.injEq] at h1 h2
    have := eq_of_beq h
    subst this h1 h2
    exact ok_ref25_Good
  simp only [h, Bool.false_eq_true, if_false] at h1 h2
  by_cases h : (3 == f) = true
  · simp only [h, if_true, Option.some.injEq] at h1 h2
    have := eq_of_beq h
    subst this h1 h2
    exact ok_law25_MaximiseRoom
  simp only [h, Bool.false_eq_true, if_false] at h1 h2
  by_cases h : (23 == f) = true
  · simp only [h, if_true, Option.some.injEq] at h1 h2
    have := eq_of_beq h
    subst this h1 h2
    exact ok_fixed_Split
  simp only [h, Bool.false_eq_true, if_false] at h1 h2
  by_cases h : (25 == f) = true
  · simp only [h, if_true, Option.some.injEq] at h1 h2
    have := eq_of_beq h
    subst this h1 h2
    exact ok_base_Raise
  simp only [h, Bool.false_eq_true, if_false] at h1 h2
  by_cases h : (9 == f) = true
  · simp only [h, if_true, Option.some.injEq] at h1 h2
    have := eq_of_beq h
    subst this h1 h2
    exact ok_maximise_Stretch
  simp only [h, Bool.false_eq_true, if_false] at h1 h2
  by_cases h : (10 == f) = true
  · simp only [h, if_true, Option.some.injEq] at h1 h2
    have := eq_of_beq h
    subst this h1 h2
    exact ok_maximise_Full
  simp only [h, Bool.false_eq_true, if_false] at h1 h2
  by_cases h : (4 == f) = true
  · simp only [h, if_true, Option.some.injEq] at h1 h2
    have := eq_of_beq h
    subst this h1 h2
    exact ok_law25_MaximiseWhole
  simp only [h, Bool.false_eq_true, if_false] at h1 h2
  by_cases h : (28 == f) = true
  · simp only [h, if_true, Option.some.injEq] at h1 h2
    have := eq_of_beq h
    subst this h1 h2
    exact ok_maximise_Total_1
  simp only [h, Bool.false_eq_true, if_false] at h1 h2
  by_cases h : (11 == f) = true
  · simp only [h, if_true, Option.some.injEq] at h1 h2
    have := eq_of_beq h
    subst this h1 h2
    exact ok_maximise_Total
  simp only [h, Bool.false_eq_true, if_false] at h1 h2
  by_cases h : (30 == f) = true
  · simp only [h, if_true, Option.some.injEq] at h1 h2
    have := eq_of_beq h
    subst this h1 h2
    exact ok_ref25_within
  simp only [h, Bool.false_eq_true, if_false] at h1 h2
  by_cases h : (12 == f) = true
  · simp only [h, if_true, Option.some.injEq] at h1 h2
    have := eq_of_beq h
    subst this h1 h2
    exact ok_ref25_Total
  simp only [h, Bool.false_eq_true, if_false] at h1 h2
  by_cases h : (41 == f) = true
  · simp only [h, if_true, Option.some.injEq] at h1 h2
    have := eq_of_beq h
    subst this h1 h2
    exact ok_ref23_Right
  simp only [h, Bool.false_eq_true, if_false] at h1 h2
  by_cases h : (42 == f) = true
  · simp only [h, if_true, Option.some.injEq] at h1 h2
    have := eq_of_beq h
    subst this h1 h2
    exact ok_ref23_taken
  simp only [h, Bool.false_eq_true, if_false] at h1 h2
  by_cases h : (31 == f) = true
  · simp only [h, if_true, Option.some.injEq] at h1 h2
    have := eq_of_beq h
    subst this h1 h2
    exact ok_ref23_Up
  simp only [h, Bool.false_eq_true, if_false] at h1 h2
  by_cases h : (14 == f) = true
  · simp only [h, if_true, Option.some.injEq] at h1 h2
    have := eq_of_beq h
    subst this h1 h2
    exact ok_ref25_Grow
  simp only [h, Bool.false_eq_true, if_false] at h1 h2
  by_cases h : (13 == f) = true
  · simp only [h, if_true, Option.some.injEq] at h1 h2
    have := eq_of_beq h
    subst this h1 h2
    exact ok_ref22_Same
  simp only [h, Bool.false_eq_true, if_false] at h1 h2
  by_cases h : (15 == f) = true
  · simp only [h, if_true, Option.some.injEq] at h1 h2
    have := eq_of_beq h
    subst this h1 h2
    exact ok_ref25_Full
  simp only [h, Bool.false_eq_true, if_false] at h1 h2
  by_cases h : (32 == f) = true
  · simp only [h, if_true, Option.some.injEq] at h1 h2
    have := eq_of_beq h
    subst this h1 h2
    exact ok_ref01_Split
  simp only [h, Bool.false_eq_true, if_false] at h1 h2
  by_cases h : (33 == f) = true
  · simp only [h, if_true, Option.some.injEq] at h1 h2
    have := eq_of_beq h
    subst this h1 h2
    exact ok_ref22_Raise
  simp only [h, Bool.false_eq_true, if_false] at h1 h2
  by_cases h : (16 == f) = true
  · simp only [h, if_true, Option.some.injEq] at h1 h2
    have := eq_of_beq h
    subst this h1 h2
    exact ok_ref25_Stretch
  simp only [h, Bool.false_eq_true, if_false] at h1 h2
  by_cases h : (5 == f) = true
  · simp only [h, if_true, Option.some.injEq] at h1 h2
    have := eq_of_beq h
    subst this h1 h2
    exact ok_law25_MaximiseTells
  simp only [h, Bool.false_eq_true, if_false] at h1 h2
  cases h1
end Go.Proofs.Ytolgoenpckiggaa.T
