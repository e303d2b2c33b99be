/- The trees that are written down are what the runner makes of the program's code (1 of 3). No condition. -/
import Derived.Test.YtmfjdoanipgjkaaT
import Derived.Test.YtmfjdoanipgjkaaProg
set_option maxRecDepth 100000
set_option linter.unusedVariables false
namespace Go.Proofs.Ytmfjdoanipgjkaa.T
open Go Go.Proofs.Ytmfjdoanipgjkaa.Sx Go.Proofs
theorem ok_law21_px : (treeOf Try.prog sg (sxDrawn Try.prog sg) 6 13 ⟨[.leaf (.int .i64)], [.agg [.int .i64, .int .i64, .int .i64, .int .i64, .bool, .int .i64, .int .i64]]⟩).same law21_px = true := by decide +kernel
theorem ok_occupy_Overlap_1 : (treeOf Try.prog sg (sxDrawn Try.prog sg) 6 43 ⟨[.leaf (.int .i64), .leaf (.int .i64), .leaf (.int .i64), .leaf (.int .i64)], [.leaf (.bool)]⟩).same occupy_Overlap_1 = true := by decide +kernel
theorem ok_occupy_good_1 : (treeOf Try.prog sg (sxDrawn Try.prog sg) 6 44 ⟨[.leaf (.int .i64)], [.leaf (.bool)]⟩).same occupy_good_1 = true := by decide +kernel
theorem ok_occupy_good_2 : (treeOf Try.prog sg (sxDrawn Try.prog sg) 6 45 ⟨[.leaf (.int .i64)], [.leaf (.bool)]⟩).same occupy_good_2 = true := by decide +kernel
theorem ok_occupy_good : (treeOf Try.prog sg (sxDrawn Try.prog sg) 6 42 ⟨[.agg [.int .i64, .int .i64, .int .i64, .int .i64]], [.leaf (.bool)]⟩).same occupy_good = true := by decide +kernel
theorem ok_occupy_Overlap : (treeOf Try.prog sg (sxDrawn Try.prog sg) 6 41 ⟨[.agg [.int .i64, .int .i64, .int .i64, .int .i64], .agg [.int .i64, .int .i64, .int .i64, .int .i64]], [.leaf (.bool)]⟩).same occupy_Overlap = true := by decide +kernel
theorem ok_occupy_Free : (treeOf Try.prog sg (sxDrawn Try.prog sg) 6 33 ⟨[.leaf (.row [.int .i64, .int .i64, .int .i64, .int .i64]), .agg [.int .i64, .int .i64, .int .i64, .int .i64]], [.leaf (.bool)]⟩).same occupy_Free = true := by decide +kernel
theorem ok_implicit_side : (treeOf Try.prog sg (sxDrawn Try.prog sg) 6 34 ⟨[.agg [.int .i64, .int .i64, .int .i64, .int .i64], .leaf (.bool)], [.agg [.int .i64, .int .i64]]⟩).same implicit_side = true := by decide +kernel
theorem ok_implicit_Bounds : (treeOf Try.prog sg (sxDrawn Try.prog sg) 6 21 ⟨[.leaf (.row [.int .i64, .int .i64, .int .i64, .int .i64]), .leaf (.int .i64), .leaf (.bool)], [.leaf (.int .i64), .leaf (.int .i64)]⟩).same implicit_Bounds = true := by decide +kernel
theorem ok_fixed_Div : (treeOf Try.prog sg (sxDrawn Try.prog sg) 6 35 ⟨[.leaf (.int .i64), .leaf (.int .i64)], [.leaf (.int .i64)]⟩).same fixed_Div = true := by decide +kernel
theorem ok_fixed_Mod : (treeOf Try.prog sg (sxDrawn Try.prog sg) 6 23 ⟨[.leaf (.int .i64), .leaf (.int .i64)], [.leaf (.int .i64)]⟩).same fixed_Mod = true := by decide +kernel
theorem ok_track_auto : (treeOf Try.prog sg (sxDrawn Try.prog sg) 6 36 ⟨[], [.agg [.int .i64, .int .i64]]⟩).same track_auto = true := by decide +kernel
theorem ok_track_fit : (treeOf Try.prog sg (sxDrawn Try.prog sg) 6 24 ⟨[.agg [.int .i64, .int .i64]], [.agg [.int .i64, .int .i64, .int .i64, .int .i64, .bool, .int .i64, .int .i64]]⟩).same track_fit = true := by decide +kernel
theorem ok_track_isLen : (treeOf Try.prog sg (sxDrawn Try.prog sg) 6 25 ⟨[.agg [.int .i64, .int .i64]], [.leaf (.bool)]⟩).same track_isLen = true := by decide +kernel
end Go.Proofs.Ytmfjdoanipgjkaa.T
