/- The trees that are written down are what the runner makes of the program's code (3 of 4). No condition. -/
import Derived.Test.YtmgmidipijpkdaaT
import Derived.Test.YtmgmidipijpkdaaProg
set_option maxRecDepth 100000
set_option linter.unusedVariables false
namespace Go.Proofs.Ytmgmidipijpkdaa.T
open Go Go.Proofs.Ytmgmidipijpkdaa.Sx Go.Proofs
theorem ok_ref01_quotient : (treeOf Try.prog sg (sxDrawn Try.prog sg) 6 48 ⟨[.agg [.int .u64, .int .u64], .leaf (.int .u64)], [.agg [.int .u64, .int .u64], .leaf (.int .u64)]⟩).same ref01_quotient = true := by decide +kernel
theorem ok_ref01_MulDiv : (treeOf Try.prog sg (sxDrawn Try.prog sg) 6 44 ⟨[.leaf (.int .i64), .leaf (.int .i64), .leaf (.int .i64)], [.leaf (.int .i64), .leaf (.int .i64)]⟩).same ref01_MulDiv = true := by decide +kernel
theorem ok_ref01_Percent : (treeOf Try.prog sg (sxDrawn Try.prog sg) 6 34 ⟨[.leaf (.int .i64), .leaf (.int .i64)], [.leaf (.int .i64), .leaf (.int .i64)]⟩).same ref01_Percent = true := by decide +kernel
theorem ok_ref05_Resolve : (treeOf Try.prog sg (sxDrawn Try.prog sg) 6 21 ⟨[.agg [.int .i64, .int .i64], .leaf (.int .i64), .leaf (.bool)], [.leaf (.int .i64), .leaf (.bool), .leaf (.int .i64)]⟩).same ref05_Resolve = true := by decide +kernel
theorem ok_ref22_Kind : (treeOf Try.prog sg (sxDrawn Try.prog sg) 6 22 ⟨[.agg [.int .i64, .int .i64], .leaf (.bool)], [.leaf (.int .i64)]⟩).same ref22_Kind = true := by decide +kernel
theorem ok_ref22_Raise : (treeOf Try.prog sg (sxDrawn Try.prog sg) 6 12 ⟨[.agg [.int .i64, .int .i64, .int .i64, .bool, .int .i64, .int .i64, .int .i64]], [.agg [.int .i64, .int .i64, .int .i64, .bool, .int .i64, .int .i64, .int .i64]]⟩).same ref22_Raise = true := by decide +kernel
theorem ok_ref22_Start : (treeOf Try.prog sg (sxDrawn Try.prog sg) 6 7 ⟨[.agg [.int .i64, .int .i64, .int .i64, .int .i64, .bool, .int .i64, .int .i64], .leaf (.int .i64), .leaf (.bool)], [.agg [.int .i64, .int .i64, .int .i64, .bool, .int .i64, .int .i64, .int .i64], .leaf (.int .i64)]⟩).same ref22_Start = true := by decide +kernel
theorem ok_law22_px : (treeOf Try.prog sg (sxDrawn Try.prog sg) 6 23 ⟨[.leaf (.int .i64)], [.agg [.int .i64, .int .i64]]⟩).same law22_px = true := by decide +kernel
theorem ok_law22_lives : (treeOf Try.prog sg (sxDrawn Try.prog sg) 6 8 ⟨[], [.leaf (.bool)]⟩).same law22_lives = true := by decide +kernel
theorem ok_law22_BaseStarts : (treeOf Try.prog sg (sxDrawn Try.prog sg) 6 3 ⟨[.agg [.int .i64, .int .i64, .int .i64, .int .i64, .bool, .int .i64, .int .i64], .leaf (.int .i64), .leaf (.bool)], [.leaf (.bool)]⟩).same law22_BaseStarts = true := by decide +kernel
theorem ok_implicit_within : (treeOf Try.prog sg (sxDrawn Try.prog sg) 6 35 ⟨[.leaf (.int .i64)], [.leaf (.bool)]⟩).same implicit_within = true := by decide +kernel
theorem ok_implicit_Good : (treeOf Try.prog sg (sxDrawn Try.prog sg) 6 25 ⟨[.agg [.int .i64, .row [.int .i64, .int .i64, .int .i64, .int .i64, .bool, .int .i64, .int .i64], .row [.bool], .row [.int .i64]]], [.leaf (.bool)]⟩).same implicit_Good = true := by decide +kernel
theorem ok_base_All : (treeOf Try.prog sg (sxDrawn Try.prog sg) 6 13 ⟨[.agg [.int .i64, .row [.int .i64, .int .i64, .int .i64, .int .i64, .bool, .int .i64, .int .i64], .row [.bool], .row [.int .i64]], .leaf (.int .i64), .leaf (.bool)], [.own [.int .i64, .int .i64, .int .i64, .bool, .int .i64, .int .i64, .int .i64], .leaf (.int .i64)]⟩).same base_All = true := by decide +kernel
theorem ok_ref21_within : (treeOf Try.prog sg (sxDrawn Try.prog sg) 6 36 ⟨[.leaf (.int .i64)], [.leaf (.bool)]⟩).same ref21_within = true := by decide +kernel
end Go.Proofs.Ytmgmidipijpkdaa.T
