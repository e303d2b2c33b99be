/- The trees that are written down are what the runner makes of the program's code (1 of 4). No condition. -/
import Derived.Test.YtmgmidipijpkdaaT
import Derived.Test.YtmgmidipijpkdaaProg
set_option maxRecDepth 100000
set_option linter.unusedVariables false
namespace Go.Proofs.Ytmgmidipijpkdaa.T
open Go Go.Proofs.Ytmgmidipijpkdaa.Sx Go.Proofs
theorem ok_fixed_Is : (treeOf Try.prog sg (sxDrawn Try.prog sg) 6 17 ⟨[.leaf (.int .i64)], [.leaf (.bool)]⟩).same fixed_Is = true := by decide +kernel
theorem ok_fixed_size : (treeOf Try.prog sg (sxDrawn Try.prog sg) 6 46 ⟨[.leaf (.int .i64)], [.leaf (.int .u64)]⟩).same fixed_size = true := by decide +kernel
theorem ok_math_bits_Mul64 : (treeOf Try.prog sg (sxDrawn Try.prog sg) 6 45 ⟨[.leaf (.int .u64), .leaf (.int .u64)], [.leaf (.int .u64), .leaf (.int .u64)]⟩).same math_bits_Mul64 = true := by decide +kernel
theorem ok_math_bits_Len64 : (treeOf Try.prog sg (sxDrawn Try.prog sg) 6 54 ⟨[.leaf (.int .u64)], [.leaf (.int .i64)]⟩).same math_bits_Len64 = true := by decide +kernel
theorem ok_math_bits_LeadingZeros64 : (treeOf Try.prog sg (sxDrawn Try.prog sg) 6 52 ⟨[.leaf (.int .u64)], [.leaf (.int .i64)]⟩).same math_bits_LeadingZeros64 = true := by decide +kernel
theorem ok_math_bits_Div64 : (treeOf Try.prog sg (sxDrawn Try.prog sg) 6 47 ⟨[.leaf (.int .u64), .leaf (.int .u64), .leaf (.int .u64)], [.leaf (.int .u64), .leaf (.int .u64)]⟩).same math_bits_Div64 = true := by decide +kernel
theorem ok_fixed_MulDiv : (treeOf Try.prog sg (sxDrawn Try.prog sg) 6 40 ⟨[.leaf (.int .i64), .leaf (.int .i64), .leaf (.int .i64)], [.leaf (.int .i64), .leaf (.int .i64)]⟩).same fixed_MulDiv = true := by decide +kernel
theorem ok_fixed_Percent : (treeOf Try.prog sg (sxDrawn Try.prog sg) 6 31 ⟨[.leaf (.int .i64), .leaf (.int .i64)], [.leaf (.int .i64), .leaf (.int .i64)]⟩).same fixed_Percent = true := by decide +kernel
theorem ok_value_Resolve : (treeOf Try.prog sg (sxDrawn Try.prog sg) 6 18 ⟨[.agg [.int .i64, .int .i64], .leaf (.int .i64), .leaf (.bool)], [.leaf (.int .i64), .leaf (.bool), .leaf (.int .i64)]⟩).same value_Resolve = true := by decide +kernel
theorem ok_base_kind : (treeOf Try.prog sg (sxDrawn Try.prog sg) 6 19 ⟨[.agg [.int .i64, .int .i64], .leaf (.bool)], [.leaf (.int .i64)]⟩).same base_kind = true := by decide +kernel
theorem ok_base_Raise : (treeOf Try.prog sg (sxDrawn Try.prog sg) 6 11 ⟨[.agg [.int .i64, .int .i64, .int .i64, .bool, .int .i64, .int .i64, .int .i64]], [.agg [.int .i64, .int .i64, .int .i64, .bool, .int .i64, .int .i64, .int .i64]]⟩).same base_Raise = true := by decide +kernel
theorem ok_track_auto : (treeOf Try.prog sg (sxDrawn Try.prog sg) 6 37 ⟨[], [.agg [.int .i64, .int .i64]]⟩).same track_auto = true := by decide +kernel
theorem ok_track_fit : (treeOf Try.prog sg (sxDrawn Try.prog sg) 6 28 ⟨[.agg [.int .i64, .int .i64]], [.agg [.int .i64, .int .i64, .int .i64, .int .i64, .bool, .int .i64, .int .i64]]⟩).same track_fit = true := by decide +kernel
theorem ok_track_isLen : (treeOf Try.prog sg (sxDrawn Try.prog sg) 6 29 ⟨[.agg [.int .i64, .int .i64]], [.leaf (.bool)]⟩).same track_isLen = true := by decide +kernel
end Go.Proofs.Ytmgmidipijpkdaa.T
