/- The trees that are written down are what the runner makes of the program's code (1 of 4). No condition. -/
import Derived.Test.YtpaabecgngbjcaaT
import Derived.Test.YtpaabecgngbjcaaProg
set_option maxRecDepth 100000
set_option linter.unusedVariables false
namespace Go.Proofs.Ytpaabecgngbjcaa.T
open Go Go.Proofs.Ytpaabecgngbjcaa.Sx Go.Proofs
theorem ok_law26_fr : (treeOf Try.prog sg (sxDrawn Try.prog sg) 6 17 ⟨[.leaf (.int .i64), .leaf (.int .i64)], [.agg [.int .i64, .int .i64, .int .i64, .bool, .int .i64, .int .i64, .int .i64]]⟩).same law26_fr = true := by decide +kernel
theorem ok_flex_less : (treeOf Try.prog sg (sxDrawn Try.prog sg) 6 23 ⟨[.leaf (.int .i64), .leaf (.row [.int .i64])], [.leaf (.int .i64)]⟩).same flex_less = true := by decide +kernel
theorem ok_fixed_size : (treeOf Try.prog sg (sxDrawn Try.prog sg) 6 54 ⟨[.leaf (.int .i64)], [.leaf (.int .u64)]⟩).same fixed_size = true := by decide +kernel
theorem ok_math_bits_Mul64 : (treeOf Try.prog sg (sxDrawn Try.prog sg) 6 53 ⟨[.leaf (.int .u64), .leaf (.int .u64)], [.leaf (.int .u64), .leaf (.int .u64)]⟩).same math_bits_Mul64 = true := by decide +kernel
theorem ok_math_bits_Len64 : (treeOf Try.prog sg (sxDrawn Try.prog sg) 6 62 ⟨[.leaf (.int .u64)], [.leaf (.int .i64)]⟩).same math_bits_Len64 = true := by decide +kernel
theorem ok_math_bits_LeadingZeros64 : (treeOf Try.prog sg (sxDrawn Try.prog sg) 6 61 ⟨[.leaf (.int .u64)], [.leaf (.int .i64)]⟩).same math_bits_LeadingZeros64 = true := by decide +kernel
theorem ok_math_bits_Div64 : (treeOf Try.prog sg (sxDrawn Try.prog sg) 6 55 ⟨[.leaf (.int .u64), .leaf (.int .u64), .leaf (.int .u64)], [.leaf (.int .u64), .leaf (.int .u64)]⟩).same math_bits_Div64 = true := by decide +kernel
theorem ok_fixed_MulDiv : (treeOf Try.prog sg (sxDrawn Try.prog sg) 6 37 ⟨[.leaf (.int .i64), .leaf (.int .i64), .leaf (.int .i64)], [.leaf (.int .i64), .leaf (.int .i64)]⟩).same fixed_MulDiv = true := by decide +kernel
theorem ok_flex_share_part : (treeOf Try.prog sg (sxDrawn Try.prog sg) 6 24 ⟨[.agg [.int .i64, .int .i64, .row [.int .i64]], .leaf (.int .i64)], [.leaf (.int .i64)]⟩).same flex_share_part = true := by decide +kernel
theorem ok_flex_shared : (treeOf Try.prog sg (sxDrawn Try.prog sg) 6 22 ⟨[.leaf (.row [.int .i64, .int .i64, .int .i64, .bool, .int .i64, .int .i64, .int .i64]), .leaf (.int .i64)], [.agg [.int .i64, .int .i64, .row [.int .i64]]]⟩).same flex_shared = true := by decide +kernel
theorem ok_base_Raise : (treeOf Try.prog sg (sxDrawn Try.prog sg) 6 47 ⟨[.agg [.int .i64, .int .i64, .int .i64, .bool, .int .i64, .int .i64, .int .i64]], [.agg [.int .i64, .int .i64, .int .i64, .bool, .int .i64, .int .i64, .int .i64]]⟩).same base_Raise = true := by decide +kernel
theorem ok_fixed_Share : (treeOf Try.prog sg (sxDrawn Try.prog sg) 6 25 ⟨[.leaf (.int .i64), .leaf (.row [.int .i64])], [.own [.int .i64]]⟩).same fixed_Share = true := by decide +kernel
theorem ok_fixed_Is : (treeOf Try.prog sg (sxDrawn Try.prog sg) 6 40 ⟨[.leaf (.int .i64)], [.leaf (.bool)]⟩).same fixed_Is = true := by decide +kernel
theorem ok_base_Good_1 : (treeOf Try.prog sg (sxDrawn Try.prog sg) 6 56 ⟨[.leaf (.int .i64), .leaf (.int .i64), .leaf (.int .i64)], [.leaf (.bool)]⟩).same base_Good_1 = true := by decide +kernel
end Go.Proofs.Ytpaabecgngbjcaa.T
