/- The trees that are written down are what the runner makes of the program's code (2 of 3). No condition. -/
import Derived.Test.YtmfjdoanipgjkaaT
import Derived.Test.YtmfjdoanipgjkaaProg
set_option maxRecDepth 100000
set_option linter.unusedVariables false
namespace Go.Proofs.Ytmfjdoanipgjkaa.T
open Go Go.Proofs.Ytmfjdoanipgjkaa.Sx Go.Proofs
theorem ok_value_keyBit : (treeOf Try.prog sg (sxDrawn Try.prog sg) 6 38 ⟨[.leaf (.int .i64)], [.leaf (.int .i64)]⟩).same value_keyBit = true := by decide +kernel
theorem ok_value_Good : (treeOf Try.prog sg (sxDrawn Try.prog sg) 6 26 ⟨[.agg [.int .i64, .int .i64], .leaf (.int .i64)], [.leaf (.bool)]⟩).same value_Good = true := by decide +kernel
theorem ok_track_Right : (treeOf Try.prog sg (sxDrawn Try.prog sg) 6 14 ⟨[.agg [.int .i64, .int .i64, .int .i64, .int .i64, .bool, .int .i64, .int .i64]], [.leaf (.bool)]⟩).same track_Right = true := by decide +kernel
theorem ok_implicit_Tracks_1 : (treeOf Try.prog sg (sxDrawn Try.prog sg) 6 18 ⟨[.agg [.int .i64, .int .i64, .int .i64, .int .i64, .bool, .int .i64, .int .i64]], [.leaf (.bool)]⟩).same implicit_Tracks_1 = true := by decide +kernel
theorem ok_expand_Good_1 : (treeOf Try.prog sg (sxDrawn Try.prog sg) 6 30 ⟨[.agg [.int .i64, .int .i64, .int .i64, .int .i64, .bool, .int .i64, .int .i64]], [.leaf (.bool)]⟩).same expand_Good_1 = true := by decide +kernel
theorem ok_expand_Good : (treeOf Try.prog sg (sxDrawn Try.prog sg) 6 19 ⟨[.agg [.row [.row [.str]], .row [.int .i64, .int .i64, .int .i64, .int .i64, .bool, .int .i64, .int .i64], .int .i64, .int .i64]], [.leaf (.bool)]⟩).same expand_Good = true := by decide +kernel
theorem ok_fixed_Is : (treeOf Try.prog sg (sxDrawn Try.prog sg) 6 27 ⟨[.leaf (.int .i64)], [.leaf (.bool)]⟩).same fixed_Is = true := by decide +kernel
theorem ok_implicit_within : (treeOf Try.prog sg (sxDrawn Try.prog sg) 6 15 ⟨[.leaf (.int .i64)], [.leaf (.bool)]⟩).same implicit_within = true := by decide +kernel
theorem ok_implicit_Tracks : (treeOf Try.prog sg (sxDrawn Try.prog sg) 6 11 ⟨[.agg [.row [.row [.str]], .row [.int .i64, .int .i64, .int .i64, .int .i64, .bool, .int .i64, .int .i64], .int .i64, .int .i64], .leaf (.int .i64), .leaf (.row [.int .i64, .int .i64, .int .i64, .int .i64, .bool, .int .i64, .int .i64]), .leaf (.row [.int .i64, .int .i64, .int .i64, .int .i64]), .leaf (.bool), .leaf (.int .i64)], [.agg [.int .i64, .row [.int .i64, .int .i64, .int .i64, .int .i64, .bool, .int .i64, .int .i64], .row [.bool], .row [.int .i64]], .leaf (.int .i64)]⟩).same implicit_Tracks = true := by decide +kernel
theorem ok_implicit_Total : (treeOf Try.prog sg (sxDrawn Try.prog sg) 6 8 ⟨[.agg [.int .i64, .row [.int .i64, .int .i64, .int .i64, .int .i64, .bool, .int .i64, .int .i64], .row [.bool], .row [.int .i64]]], [.leaf (.int .i64)]⟩).same implicit_Total = true := by decide +kernel
theorem ok_implicit_Good : (treeOf Try.prog sg (sxDrawn Try.prog sg) 6 6 ⟨[.agg [.int .i64, .row [.int .i64, .int .i64, .int .i64, .int .i64, .bool, .int .i64, .int .i64], .row [.bool], .row [.int .i64]]], [.leaf (.bool)]⟩).same implicit_Good = true := by decide +kernel
theorem ok_law21_lives : (treeOf Try.prog sg (sxDrawn Try.prog sg) 6 5 ⟨[], [.leaf (.bool)]⟩).same law21_lives = true := by decide +kernel
theorem ok_ref06_isLen : (treeOf Try.prog sg (sxDrawn Try.prog sg) 6 28 ⟨[.agg [.int .i64, .int .i64]], [.leaf (.bool)]⟩).same ref06_isLen = true := by decide +kernel
theorem ok_ref05_bits : (treeOf Try.prog sg (sxDrawn Try.prog sg) 6 39 ⟨[.leaf (.int .i64)], [.leaf (.int .i64)]⟩).same ref05_bits = true := by decide +kernel
end Go.Proofs.Ytmfjdoanipgjkaa.T
