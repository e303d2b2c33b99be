/- The trees that are written down are what the runner makes of the program's code (4 of 4). No condition. -/
import Derived.Test.YtmgmidipijpkdaaT
import Derived.Test.YtmgmidipijpkdaaProg
set_option maxRecDepth 100000
set_option linter.unusedVariables false
namespace Go.Proofs.Ytmgmidipijpkdaa.T
open Go Go.Proofs.Ytmgmidipijpkdaa.Sx Go.Proofs
theorem ok_ref21_Good : (treeOf Try.prog sg (sxDrawn Try.prog sg) 6 26 ⟨[.agg [.int .i64, .row [.int .i64, .int .i64, .int .i64, .int .i64, .bool, .int .i64, .int .i64], .row [.bool], .row [.int .i64]]], [.leaf (.bool)]⟩).same ref21_Good = true := by decide +kernel
theorem ok_ref06_One : (treeOf Try.prog sg (sxDrawn Try.prog sg) 6 27 ⟨[.agg [.int .i64, .int .i64]], [.agg [.int .i64, .int .i64, .int .i64, .int .i64, .bool, .int .i64, .int .i64]]⟩).same ref06_One = true := by decide +kernel
theorem ok_ref22_All : (treeOf Try.prog sg (sxDrawn Try.prog sg) 6 14 ⟨[.agg [.int .i64, .row [.int .i64, .int .i64, .int .i64, .int .i64, .bool, .int .i64, .int .i64], .row [.bool], .row [.int .i64]], .leaf (.int .i64), .leaf (.bool)], [.own [.int .i64, .int .i64, .int .i64, .bool, .int .i64, .int .i64, .int .i64], .leaf (.int .i64)]⟩).same ref22_All = true := by decide +kernel
theorem ok_ref22_Same : (treeOf Try.prog sg (sxDrawn Try.prog sg) 6 15 ⟨[.leaf (.row [.int .i64, .int .i64, .int .i64, .bool, .int .i64, .int .i64, .int .i64]), .leaf (.row [.int .i64, .int .i64, .int .i64, .bool, .int .i64, .int .i64, .int .i64])], [.leaf (.bool)]⟩).same ref22_Same = true := by decide +kernel
theorem ok_base_Good_1 : (treeOf Try.prog sg (sxDrawn Try.prog sg) 6 24 ⟨[.leaf (.int .i64), .leaf (.int .i64), .leaf (.int .i64)], [.leaf (.bool)]⟩).same base_Good_1 = true := by decide +kernel
theorem ok_base_Good : (treeOf Try.prog sg (sxDrawn Try.prog sg) 6 9 ⟨[.agg [.int .i64, .int .i64, .int .i64, .bool, .int .i64, .int .i64, .int .i64]], [.leaf (.bool)]⟩).same base_Good = true := by decide +kernel
theorem ok_law22_BaseAll : (treeOf Try.prog sg (sxDrawn Try.prog sg) 6 5 ⟨[.agg [.int .i64, .row [.int .i64, .int .i64, .int .i64, .int .i64, .bool, .int .i64, .int .i64], .row [.bool], .row [.int .i64]], .leaf (.int .i64), .leaf (.bool)], [.leaf (.bool)]⟩).same law22_BaseAll = true := by decide +kernel
end Go.Proofs.Ytmgmidipijpkdaa.T
