/- The trees that are written down are what the runner makes of the program's code (2 of 4). No condition. -/
import Derived.Test.YtpaabecgngbjcaaT
import Derived.Test.YtpaabecgngbjcaaProg
set_option maxRecDepth 100000
set_option linter.unusedVariables false
namespace Go.Proofs.Ytpaabecgngbjcaa.T
open Go Go.Proofs.Ytpaabecgngbjcaa.Sx Go.Proofs
theorem ok_base_Good : (treeOf Try.prog sg (sxDrawn Try.prog sg) 6 39 ⟨[.agg [.int .i64, .int .i64, .int .i64, .bool, .int .i64, .int .i64, .int .i64]], [.leaf (.bool)]⟩).same base_Good = true := by decide +kernel
theorem ok_flex_right_1 : (treeOf Try.prog sg (sxDrawn Try.prog sg) 6 38 ⟨[.agg [.int .i64, .int .i64, .int .i64, .bool, .int .i64, .int .i64, .int .i64]], [.leaf (.bool)]⟩).same flex_right_1 = true := by decide +kernel
theorem ok_flex_right : (treeOf Try.prog sg (sxDrawn Try.prog sg) 6 20 ⟨[.leaf (.row [.int .i64, .int .i64, .int .i64, .bool, .int .i64, .int .i64, .int .i64]), .leaf (.int .i64)], [.leaf (.bool)]⟩).same flex_right = true := by decide +kernel
theorem ok_intrinsic_within : (treeOf Try.prog sg (sxDrawn Try.prog sg) 6 44 ⟨[.leaf (.int .i64)], [.leaf (.bool)]⟩).same intrinsic_within = true := by decide +kernel
theorem ok_intrinsic_Good_2 : (treeOf Try.prog sg (sxDrawn Try.prog sg) 6 43 ⟨[.leaf (.int .i64)], [.leaf (.bool)]⟩).same intrinsic_Good_2 = true := by decide +kernel
theorem ok_intrinsic_Good_1 : (treeOf Try.prog sg (sxDrawn Try.prog sg) 6 42 ⟨[.agg [.int .i64, .int .i64, .int .i64, .bool, .int .i64, .int .i64, .int .i64]], [.leaf (.bool)]⟩).same intrinsic_Good_1 = true := by decide +kernel
theorem ok_intrinsic_Good : (treeOf Try.prog sg (sxDrawn Try.prog sg) 6 21 ⟨[.leaf (.row [.int .i64, .int .i64, .int .i64, .bool, .int .i64, .int .i64, .int .i64]), .leaf (.row [.int .i64]), .leaf (.row [.int .i64, .int .i64, .int .i64, .int .i64, .int .i64]), .leaf (.int .i64)], [.leaf (.bool)]⟩).same intrinsic_Good = true := by decide +kernel
theorem ok_flex_Fill : (treeOf Try.prog sg (sxDrawn Try.prog sg) 6 8 ⟨[.leaf (.row [.int .i64, .int .i64, .int .i64, .bool, .int .i64, .int .i64, .int .i64]), .leaf (.row [.int .i64]), .leaf (.int .i64)], [.leaf (.row [.int .i64, .int .i64, .int .i64, .bool, .int .i64, .int .i64, .int .i64])]⟩).same flex_Fill = true := by decide +kernel
theorem ok_law26_bases : (treeOf Try.prog sg (sxDrawn Try.prog sg) 6 19 ⟨[.leaf (.row [.int .i64, .int .i64, .int .i64, .bool, .int .i64, .int .i64, .int .i64])], [.own [.int .i64]]⟩).same law26_bases = true := by decide +kernel
theorem ok_ref01_Ints : (treeOf Try.prog sg (sxDrawn Try.prog sg) 6 18 ⟨[.leaf (.row [.int .i64]), .leaf (.row [.int .i64])], [.leaf (.bool)]⟩).same ref01_Ints = true := by decide +kernel
theorem ok_law26_lives : (treeOf Try.prog sg (sxDrawn Try.prog sg) 6 7 ⟨[], [.leaf (.bool)]⟩).same law26_lives = true := by decide +kernel
theorem ok_flex_up : (treeOf Try.prog sg (sxDrawn Try.prog sg) 6 27 ⟨[.leaf (.int .i64), .leaf (.int .i64), .leaf (.int .i64)], [.leaf (.int .i64)]⟩).same flex_up = true := by decide +kernel
theorem ok_flex_Unit : (treeOf Try.prog sg (sxDrawn Try.prog sg) 6 9 ⟨[.leaf (.row [.int .i64, .int .i64, .int .i64, .bool, .int .i64, .int .i64, .int .i64]), .leaf (.int .i64)], [.leaf (.int .i64)]⟩).same flex_Unit = true := by decide +kernel
theorem ok_ref22_Good : (treeOf Try.prog sg (sxDrawn Try.prog sg) 6 15 ⟨[.agg [.int .i64, .int .i64, .int .i64, .bool, .int .i64, .int .i64, .int .i64]], [.leaf (.bool)]⟩).same ref22_Good = true := by decide +kernel
end Go.Proofs.Ytpaabecgngbjcaa.T
