/- The trees that are written down are what the runner makes of the program's code (1 of 3). No condition. -/
import Derived.Test.YtbkohlhonhmhmaaT
import Derived.Test.YtbkohlhonhmhmaaProg
set_option maxRecDepth 100000
set_option linter.unusedVariables false
namespace Go.Proofs.Ytbkohlhonhmhmaa.T
open Go Go.Proofs.Ytbkohlhonhmhmaa.Sx Go.Proofs
theorem ok_law28_three : (treeOf Try.prog sg (sxDrawn Try.prog sg) 6 14 ⟨[], [.agg [.int .i64, .row [.int .i64, .int .i64, .int .i64, .int .i64, .bool, .int .i64, .int .i64], .row [.bool], .row [.int .i64]], .leaf (.row [.int .i64])]⟩).same law28_three = true := by decide +kernel
theorem ok_track_auto : (treeOf Try.prog sg (sxDrawn Try.prog sg) 6 47 ⟨[], [.agg [.int .i64, .int .i64]]⟩).same track_auto = true := by decide +kernel
theorem ok_track_fit : (treeOf Try.prog sg (sxDrawn Try.prog sg) 6 40 ⟨[.agg [.int .i64, .int .i64]], [.agg [.int .i64, .int .i64, .int .i64, .int .i64, .bool, .int .i64, .int .i64]]⟩).same track_fit = true := by decide +kernel
theorem ok_track_isLen : (treeOf Try.prog sg (sxDrawn Try.prog sg) 6 41 ⟨[.agg [.int .i64, .int .i64]], [.leaf (.bool)]⟩).same track_isLen = true := by decide +kernel
theorem ok_value_keyBit : (treeOf Try.prog sg (sxDrawn Try.prog sg) 6 49 ⟨[.leaf (.int .i64)], [.leaf (.int .i64)]⟩).same value_keyBit = true := by decide +kernel
theorem ok_value_Good : (treeOf Try.prog sg (sxDrawn Try.prog sg) 6 42 ⟨[.agg [.int .i64, .int .i64], .leaf (.int .i64)], [.leaf (.bool)]⟩).same value_Good = true := by decide +kernel
theorem ok_track_Right : (treeOf Try.prog sg (sxDrawn Try.prog sg) 6 31 ⟨[.agg [.int .i64, .int .i64, .int .i64, .int .i64, .bool, .int .i64, .int .i64]], [.leaf (.bool)]⟩).same track_Right = true := by decide +kernel
theorem ok_fixed_Is : (treeOf Try.prog sg (sxDrawn Try.prog sg) 6 15 ⟨[.leaf (.int .i64)], [.leaf (.bool)]⟩).same fixed_Is = true := by decide +kernel
theorem ok_implicit_within : (treeOf Try.prog sg (sxDrawn Try.prog sg) 6 32 ⟨[.leaf (.int .i64)], [.leaf (.bool)]⟩).same implicit_within = true := by decide +kernel
theorem ok_implicit_Good : (treeOf Try.prog sg (sxDrawn Try.prog sg) 6 22 ⟨[.agg [.int .i64, .row [.int .i64, .int .i64, .int .i64, .int .i64, .bool, .int .i64, .int .i64], .row [.bool], .row [.int .i64]]], [.leaf (.bool)]⟩).same implicit_Good = true := by decide +kernel
theorem ok_tracks_within : (treeOf Try.prog sg (sxDrawn Try.prog sg) 6 23 ⟨[.leaf (.int .i64)], [.leaf (.bool)]⟩).same tracks_within = true := by decide +kernel
theorem ok_tracks_Sum : (treeOf Try.prog sg (sxDrawn Try.prog sg) 6 11 ⟨[.agg [.int .i64, .row [.int .i64, .int .i64, .int .i64, .int .i64, .bool, .int .i64, .int .i64], .row [.bool], .row [.int .i64]], .leaf (.row [.int .i64])], [.leaf (.int .i64), .leaf (.int .i64)]⟩).same tracks_Sum = true := by decide +kernel
theorem ok_fixed_Div : (treeOf Try.prog sg (sxDrawn Try.prog sg) 6 17 ⟨[.leaf (.int .i64), .leaf (.int .i64)], [.leaf (.int .i64)]⟩).same fixed_Div = true := by decide +kernel
theorem ok_content_ratio : (treeOf Try.prog sg (sxDrawn Try.prog sg) 6 18 ⟨[.leaf (.int .i64), .leaf (.int .i64), .leaf (.int .i64)], [.agg [.int .i64, .int .i64]]⟩).same content_ratio = true := by decide +kernel
end Go.Proofs.Ytbkohlhonhmhmaa.T
