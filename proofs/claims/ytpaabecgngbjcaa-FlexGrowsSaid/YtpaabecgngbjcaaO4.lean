/- The trees that are written down are what the runner makes of the program's code (4 of 4). No condition. -/
import Derived.Test.YtpaabecgngbjcaaT
import Derived.Test.YtpaabecgngbjcaaProg
set_option maxRecDepth 100000
set_option linter.unusedVariables false
namespace Go.Proofs.Ytpaabecgngbjcaa.T
open Go Go.Proofs.Ytpaabecgngbjcaa.Sx Go.Proofs
theorem ok_ref01_Share : (treeOf Try.prog sg (sxDrawn Try.prog sg) 6 34 ⟨[.leaf (.int .i64), .leaf (.row [.int .i64])], [.own [.int .i64]]⟩).same ref01_Share = true := by decide +kernel
theorem ok_ref22_Raise : (treeOf Try.prog sg (sxDrawn Try.prog sg) 6 36 ⟨[.agg [.int .i64, .int .i64, .int .i64, .bool, .int .i64, .int .i64, .int .i64]], [.agg [.int .i64, .int .i64, .int .i64, .bool, .int .i64, .int .i64, .int .i64]]⟩).same ref22_Raise = true := by decide +kernel
theorem ok_ref24_within : (treeOf Try.prog sg (sxDrawn Try.prog sg) 6 16 ⟨[.leaf (.int .i64)], [.leaf (.bool)]⟩).same ref24_within = true := by decide +kernel
theorem ok_ref24_Good : (treeOf Try.prog sg (sxDrawn Try.prog sg) 6 6 ⟨[.leaf (.row [.int .i64, .int .i64, .int .i64, .bool, .int .i64, .int .i64, .int .i64]), .leaf (.row [.int .i64]), .leaf (.row [.int .i64, .int .i64, .int .i64, .int .i64, .int .i64]), .leaf (.int .i64)], [.leaf (.bool)]⟩).same ref24_Good = true := by decide +kernel
theorem ok_ref26_Fill : (treeOf Try.prog sg (sxDrawn Try.prog sg) 6 12 ⟨[.leaf (.row [.int .i64, .int .i64, .int .i64, .bool, .int .i64, .int .i64, .int .i64]), .leaf (.row [.int .i64]), .leaf (.int .i64)], [.leaf (.row [.int .i64, .int .i64, .int .i64, .bool, .int .i64, .int .i64, .int .i64])]⟩).same ref26_Fill = true := by decide +kernel
theorem ok_ref22_Same : (treeOf Try.prog sg (sxDrawn Try.prog sg) 6 11 ⟨[.leaf (.row [.int .i64, .int .i64, .int .i64, .bool, .int .i64, .int .i64, .int .i64]), .leaf (.row [.int .i64, .int .i64, .int .i64, .bool, .int .i64, .int .i64, .int .i64])], [.leaf (.bool)]⟩).same ref22_Same = true := by decide +kernel
theorem ok_flex_Grow : (treeOf Try.prog sg (sxDrawn Try.prog sg) 6 13 ⟨[.leaf (.row [.int .i64, .int .i64, .int .i64, .bool, .int .i64, .int .i64, .int .i64]), .leaf (.row [.int .i64]), .leaf (.row [.int .i64, .int .i64, .int .i64, .int .i64, .int .i64])], [.leaf (.row [.int .i64, .int .i64, .int .i64, .bool, .int .i64, .int .i64, .int .i64])]⟩).same flex_Grow = true := by decide +kernel
theorem ok_ref26_Grow : (treeOf Try.prog sg (sxDrawn Try.prog sg) 6 14 ⟨[.leaf (.row [.int .i64, .int .i64, .int .i64, .bool, .int .i64, .int .i64, .int .i64]), .leaf (.row [.int .i64]), .leaf (.row [.int .i64, .int .i64, .int .i64, .int .i64, .int .i64])], [.leaf (.row [.int .i64, .int .i64, .int .i64, .bool, .int .i64, .int .i64, .int .i64])]⟩).same ref26_Grow = true := by decide +kernel
theorem ok_law26_FlexTells : (treeOf Try.prog sg (sxDrawn Try.prog sg) 6 4 ⟨[.leaf (.row [.int .i64, .int .i64, .int .i64, .bool, .int .i64, .int .i64, .int .i64]), .leaf (.row [.int .i64]), .leaf (.row [.int .i64, .int .i64, .int .i64, .int .i64, .int .i64]), .leaf (.int .i64)], [.leaf (.bool)]⟩).same law26_FlexTells = true := by decide +kernel
theorem ok_law26_FlexFills : (treeOf Try.prog sg (sxDrawn Try.prog sg) 6 3 ⟨[.leaf (.row [.int .i64, .int .i64, .int .i64, .bool, .int .i64, .int .i64, .int .i64]), .leaf (.row [.int .i64]), .leaf (.int .i64)], [.leaf (.bool)]⟩).same law26_FlexFills = true := by decide +kernel
theorem ok_law26_FlexGrows : (treeOf Try.prog sg (sxDrawn Try.prog sg) 6 5 ⟨[.leaf (.row [.int .i64, .int .i64, .int .i64, .bool, .int .i64, .int .i64, .int .i64]), .leaf (.row [.int .i64]), .leaf (.row [.int .i64, .int .i64, .int .i64, .int .i64, .int .i64])], [.leaf (.bool)]⟩).same law26_FlexGrows = true := by decide +kernel
end Go.Proofs.Ytpaabecgngbjcaa.T
