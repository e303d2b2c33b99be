/- The trees that are written down are what the runner makes of the program's code (2 of 4). No condition. -/
import Derived.Test.YtmgmidipijpkdaaT
import Derived.Test.YtmgmidipijpkdaaProg
set_option maxRecDepth 100000
set_option linter.unusedVariables false
namespace Go.Proofs.Ytmgmidipijpkdaa.T
open Go Go.Proofs.Ytmgmidipijpkdaa.Sx Go.Proofs
theorem ok_value_keyBit : (treeOf Try.prog sg (sxDrawn Try.prog sg) 6 39 ⟨[.leaf (.int .i64)], [.leaf (.int .i64)]⟩).same value_keyBit = true := by decide +kernel
theorem ok_value_Good : (treeOf Try.prog sg (sxDrawn Try.prog sg) 6 30 ⟨[.agg [.int .i64, .int .i64], .leaf (.int .i64)], [.leaf (.bool)]⟩).same value_Good = true := by decide +kernel
theorem ok_track_Right : (treeOf Try.prog sg (sxDrawn Try.prog sg) 6 16 ⟨[.agg [.int .i64, .int .i64, .int .i64, .int .i64, .bool, .int .i64, .int .i64]], [.leaf (.bool)]⟩).same track_Right = true := by decide +kernel
theorem ok_base_Start : (treeOf Try.prog sg (sxDrawn Try.prog sg) 6 6 ⟨[.agg [.int .i64, .int .i64, .int .i64, .int .i64, .bool, .int .i64, .int .i64], .leaf (.int .i64), .leaf (.bool)], [.agg [.int .i64, .int .i64, .int .i64, .bool, .int .i64, .int .i64, .int .i64], .leaf (.int .i64)]⟩).same base_Start = true := by decide +kernel
theorem ok_ref06_isLen : (treeOf Try.prog sg (sxDrawn Try.prog sg) 6 32 ⟨[.agg [.int .i64, .int .i64]], [.leaf (.bool)]⟩).same ref06_isLen = true := by decide +kernel
theorem ok_ref05_bits : (treeOf Try.prog sg (sxDrawn Try.prog sg) 6 41 ⟨[.leaf (.int .i64)], [.leaf (.int .i64)]⟩).same ref05_bits = true := by decide +kernel
theorem ok_ref05_Has : (treeOf Try.prog sg (sxDrawn Try.prog sg) 6 42 ⟨[.leaf (.int .i64), .leaf (.int .i64)], [.leaf (.bool)]⟩).same ref05_Has = true := by decide +kernel
theorem ok_ref05_Good : (treeOf Try.prog sg (sxDrawn Try.prog sg) 6 33 ⟨[.agg [.int .i64, .int .i64], .leaf (.int .i64)], [.leaf (.bool)]⟩).same ref05_Good = true := by decide +kernel
theorem ok_ref06_Right : (treeOf Try.prog sg (sxDrawn Try.prog sg) 6 20 ⟨[.agg [.int .i64, .int .i64, .int .i64, .int .i64, .bool, .int .i64, .int .i64]], [.leaf (.bool)]⟩).same ref06_Right = true := by decide +kernel
theorem ok_ref01_Is : (treeOf Try.prog sg (sxDrawn Try.prog sg) 6 43 ⟨[.leaf (.int .i64)], [.leaf (.bool)]⟩).same ref01_Is = true := by decide +kernel
theorem ok_ref01_size : (treeOf Try.prog sg (sxDrawn Try.prog sg) 6 50 ⟨[.leaf (.int .i64)], [.leaf (.int .u64)]⟩).same ref01_size = true := by decide +kernel
theorem ok_ref01_Wide_twice : (treeOf Try.prog sg (sxDrawn Try.prog sg) 6 53 ⟨[.agg [.int .u64, .int .u64], .leaf (.int .u64)], [.agg [.int .u64, .int .u64]]⟩).same ref01_Wide_twice = true := by decide +kernel
theorem ok_ref01_Wide_plus : (treeOf Try.prog sg (sxDrawn Try.prog sg) 6 51 ⟨[.agg [.int .u64, .int .u64], .leaf (.int .u64)], [.agg [.int .u64, .int .u64]]⟩).same ref01_Wide_plus = true := by decide +kernel
theorem ok_ref01_product : (treeOf Try.prog sg (sxDrawn Try.prog sg) 6 49 ⟨[.leaf (.int .u64), .leaf (.int .u64)], [.agg [.int .u64, .int .u64]]⟩).same ref01_product = true := by decide +kernel
end Go.Proofs.Ytmgmidipijpkdaa.T
