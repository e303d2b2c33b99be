/- The trees that are written down are what the runner makes of the program's code (2 of 3). No condition. -/
import Derived.Test.YtolgoenpckiggaaT
import Derived.Test.YtolgoenpckiggaaProg
set_option maxRecDepth 100000
set_option linter.unusedVariables false
namespace Go.Proofs.Ytolgoenpckiggaa.T
open Go Go.Proofs.Ytolgoenpckiggaa.Sx Go.Proofs
theorem ok_fixed_Split : (treeOf Try.prog sg (sxDrawn Try.prog sg) 6 23 ⟨[.leaf (.int .i64), .leaf (.int .i64)], [.own [.int .i64]]⟩).same fixed_Split = true := by decide +kernel
theorem ok_base_Raise : (treeOf Try.prog sg (sxDrawn Try.prog sg) 6 25 ⟨[.agg [.int .i64, .int .i64, .int .i64, .bool, .int .i64, .int .i64, .int .i64]], [.agg [.int .i64, .int .i64, .int .i64, .bool, .int .i64, .int .i64, .int .i64]]⟩).same base_Raise = true := by decide +kernel
theorem ok_maximise_Stretch : (treeOf Try.prog sg (sxDrawn Try.prog sg) 6 9 ⟨[.leaf (.row [.int .i64, .int .i64, .int .i64, .bool, .int .i64, .int .i64, .int .i64]), .leaf (.int .i64)], [.leaf (.row [.int .i64, .int .i64, .int .i64, .bool, .int .i64, .int .i64, .int .i64])]⟩).same maximise_Stretch = true := by decide +kernel
theorem ok_maximise_Full : (treeOf Try.prog sg (sxDrawn Try.prog sg) 6 10 ⟨[.leaf (.row [.int .i64, .int .i64, .int .i64, .bool, .int .i64, .int .i64, .int .i64])], [.leaf (.row [.int .i64, .int .i64, .int .i64, .bool, .int .i64, .int .i64, .int .i64])]⟩).same maximise_Full = true := by decide +kernel
theorem ok_law25_MaximiseWhole : (treeOf Try.prog sg (sxDrawn Try.prog sg) 6 4 ⟨[.leaf (.row [.int .i64, .int .i64, .int .i64, .bool, .int .i64, .int .i64, .int .i64]), .leaf (.int .i64)], [.leaf (.bool)]⟩).same law25_MaximiseWhole = true := by decide +kernel
theorem ok_maximise_Total_1 : (treeOf Try.prog sg (sxDrawn Try.prog sg) 6 28 ⟨[.leaf (.int .i64)], [.leaf (.bool)]⟩).same maximise_Total_1 = true := by decide +kernel
theorem ok_maximise_Total : (treeOf Try.prog sg (sxDrawn Try.prog sg) 6 11 ⟨[.leaf (.row [.int .i64, .int .i64, .int .i64, .bool, .int .i64, .int .i64, .int .i64]), .leaf (.row [.int .i64])], [.leaf (.int .i64), .leaf (.int .i64)]⟩).same maximise_Total = true := by decide +kernel
theorem ok_ref25_within : (treeOf Try.prog sg (sxDrawn Try.prog sg) 6 30 ⟨[.leaf (.int .i64)], [.leaf (.bool)]⟩).same ref25_within = true := by decide +kernel
theorem ok_ref25_Total : (treeOf Try.prog sg (sxDrawn Try.prog sg) 6 12 ⟨[.leaf (.row [.int .i64, .int .i64, .int .i64, .bool, .int .i64, .int .i64, .int .i64]), .leaf (.row [.int .i64])], [.leaf (.int .i64), .leaf (.int .i64)]⟩).same ref25_Total = true := by decide +kernel
theorem ok_ref23_Right : (treeOf Try.prog sg (sxDrawn Try.prog sg) 6 41 ⟨[.leaf (.int .i64), .leaf (.row [.int .i64])], [.leaf (.bool)]⟩).same ref23_Right = true := by decide +kernel
theorem ok_ref23_taken : (treeOf Try.prog sg (sxDrawn Try.prog sg) 6 42 ⟨[.leaf (.int .i64), .leaf (.row [.int .i64]), .leaf (.int .i64)], [.leaf (.int .i64)]⟩).same ref23_taken = true := by decide +kernel
theorem ok_ref23_Up : (treeOf Try.prog sg (sxDrawn Try.prog sg) 6 31 ⟨[.leaf (.int .i64), .leaf (.row [.int .i64])], [.own [.int .i64]]⟩).same ref23_Up = true := by decide +kernel
theorem ok_ref25_Grow : (treeOf Try.prog sg (sxDrawn Try.prog sg) 6 14 ⟨[.leaf (.row [.int .i64, .int .i64, .int .i64, .bool, .int .i64, .int .i64, .int .i64]), .leaf (.int .i64)], [.leaf (.row [.int .i64, .int .i64, .int .i64, .bool, .int .i64, .int .i64, .int .i64])]⟩).same ref25_Grow = true := by decide +kernel
theorem ok_ref22_Same : (treeOf Try.prog sg (sxDrawn Try.prog sg) 6 13 ⟨[.leaf (.row [.int .i64, .int .i64, .int .i64, .bool, .int .i64, .int .i64, .int .i64]), .leaf (.row [.int .i64, .int .i64, .int .i64, .bool, .int .i64, .int .i64, .int .i64])], [.leaf (.bool)]⟩).same ref22_Same = true := by decide +kernel
end Go.Proofs.Ytolgoenpckiggaa.T
