/- The trees that are written down are what the runner makes of the program's code (1 of 3). No condition. -/
import Derived.Test.YtolgoenpckiggaaT
import Derived.Test.YtolgoenpckiggaaProg
set_option maxRecDepth 100000
set_option linter.unusedVariables false
namespace Go.Proofs.Ytolgoenpckiggaa.T
open Go Go.Proofs.Ytolgoenpckiggaa.Sx Go.Proofs
theorem ok_spread_right : (treeOf Try.prog sg (sxDrawn Try.prog sg) 6 37 ⟨[.leaf (.int .i64), .leaf (.int .i64)], [.leaf (.bool)]⟩).same spread_right = true := by decide +kernel
theorem ok_spread_rooms : (treeOf Try.prog sg (sxDrawn Try.prog sg) 6 38 ⟨[.leaf (.row [.int .i64])], [.leaf (.bool)]⟩).same spread_rooms = true := by decide +kernel
theorem ok_spread_Up : (treeOf Try.prog sg (sxDrawn Try.prog sg) 6 20 ⟨[.leaf (.int .i64), .leaf (.row [.int .i64])], [.own [.int .i64]]⟩).same spread_Up = true := by decide +kernel
theorem ok_base_Good_1 : (treeOf Try.prog sg (sxDrawn Try.prog sg) 6 44 ⟨[.leaf (.int .i64), .leaf (.int .i64), .leaf (.int .i64)], [.leaf (.bool)]⟩).same base_Good_1 = true := by decide +kernel
theorem ok_base_Good : (treeOf Try.prog sg (sxDrawn Try.prog sg) 6 36 ⟨[.agg [.int .i64, .int .i64, .int .i64, .bool, .int .i64, .int .i64, .int .i64]], [.leaf (.bool)]⟩).same base_Good = true := by decide +kernel
theorem ok_maximise_good_1 : (treeOf Try.prog sg (sxDrawn Try.prog sg) 6 35 ⟨[.agg [.int .i64, .int .i64, .int .i64, .bool, .int .i64, .int .i64, .int .i64]], [.leaf (.bool)]⟩).same maximise_good_1 = true := by decide +kernel
theorem ok_maximise_good : (treeOf Try.prog sg (sxDrawn Try.prog sg) 6 18 ⟨[.leaf (.row [.int .i64, .int .i64, .int .i64, .bool, .int .i64, .int .i64, .int .i64])], [.leaf (.bool)]⟩).same maximise_good = true := by decide +kernel
theorem ok_fixed_Is : (treeOf Try.prog sg (sxDrawn Try.prog sg) 6 29 ⟨[.leaf (.int .i64)], [.leaf (.bool)]⟩).same fixed_Is = true := by decide +kernel
theorem ok_maximise_within : (treeOf Try.prog sg (sxDrawn Try.prog sg) 6 19 ⟨[.leaf (.int .i64)], [.leaf (.bool)]⟩).same maximise_within = true := by decide +kernel
theorem ok_maximise_Grow : (treeOf Try.prog sg (sxDrawn Try.prog sg) 6 8 ⟨[.leaf (.row [.int .i64, .int .i64, .int .i64, .bool, .int .i64, .int .i64, .int .i64]), .leaf (.int .i64)], [.leaf (.row [.int .i64, .int .i64, .int .i64, .bool, .int .i64, .int .i64, .int .i64])]⟩).same maximise_Grow = true := by decide +kernel
theorem ok_law25_lives : (treeOf Try.prog sg (sxDrawn Try.prog sg) 6 7 ⟨[], [.leaf (.bool)]⟩).same law25_lives = true := by decide +kernel
theorem ok_ref22_Good : (treeOf Try.prog sg (sxDrawn Try.prog sg) 6 17 ⟨[.agg [.int .i64, .int .i64, .int .i64, .bool, .int .i64, .int .i64, .int .i64]], [.leaf (.bool)]⟩).same ref22_Good = true := by decide +kernel
theorem ok_ref25_Good : (treeOf Try.prog sg (sxDrawn Try.prog sg) 6 6 ⟨[.leaf (.row [.int .i64, .int .i64, .int .i64, .bool, .int .i64, .int .i64, .int .i64])], [.leaf (.bool)]⟩).same ref25_Good = true := by decide +kernel
theorem ok_law25_MaximiseRoom : (treeOf Try.prog sg (sxDrawn Try.prog sg) 6 3 ⟨[.leaf (.row [.int .i64, .int .i64, .int .i64, .bool, .int .i64, .int .i64, .int .i64]), .leaf (.int .i64)], [.leaf (.bool)]⟩).same law25_MaximiseRoom = true := by decide +kernel
end Go.Proofs.Ytolgoenpckiggaa.T
