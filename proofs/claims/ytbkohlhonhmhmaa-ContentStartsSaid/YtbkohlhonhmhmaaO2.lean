/- The trees that are written down are what the runner makes of the program's code (2 of 3). No condition. -/
import Derived.Test.YtbkohlhonhmhmaaT
import Derived.Test.YtbkohlhonhmhmaaProg
set_option maxRecDepth 100000
set_option linter.unusedVariables false
namespace Go.Proofs.Ytbkohlhonhmhmaa.T
open Go Go.Proofs.Ytbkohlhonhmhmaa.Sx Go.Proofs
theorem ok_fixed_size : (treeOf Try.prog sg (sxDrawn Try.prog sg) 6 26 ⟨[.leaf (.int .i64)], [.leaf (.int .u64)]⟩).same fixed_size = true := by decide +kernel
theorem ok_math_bits_Mul64 : (treeOf Try.prog sg (sxDrawn Try.prog sg) 6 25 ⟨[.leaf (.int .u64), .leaf (.int .u64)], [.leaf (.int .u64), .leaf (.int .u64)]⟩).same math_bits_Mul64 = true := by decide +kernel
theorem ok_math_bits_Len64 : (treeOf Try.prog sg (sxDrawn Try.prog sg) 6 43 ⟨[.leaf (.int .u64)], [.leaf (.int .i64)]⟩).same math_bits_Len64 = true := by decide +kernel
theorem ok_math_bits_LeadingZeros64 : (treeOf Try.prog sg (sxDrawn Try.prog sg) 6 33 ⟨[.leaf (.int .u64)], [.leaf (.int .i64)]⟩).same math_bits_LeadingZeros64 = true := by decide +kernel
theorem ok_math_bits_Div64 : (treeOf Try.prog sg (sxDrawn Try.prog sg) 6 27 ⟨[.leaf (.int .u64), .leaf (.int .u64), .leaf (.int .u64)], [.leaf (.int .u64), .leaf (.int .u64)]⟩).same math_bits_Div64 = true := by decide +kernel
theorem ok_fixed_MulDiv : (treeOf Try.prog sg (sxDrawn Try.prog sg) 6 19 ⟨[.leaf (.int .i64), .leaf (.int .i64), .leaf (.int .i64)], [.leaf (.int .i64), .leaf (.int .i64)]⟩).same fixed_MulDiv = true := by decide +kernel
theorem ok_content_Starts : (treeOf Try.prog sg (sxDrawn Try.prog sg) 6 8 ⟨[.agg [.int .i64, .row [.int .i64, .int .i64, .int .i64, .int .i64, .bool, .int .i64, .int .i64], .row [.bool], .row [.int .i64]], .leaf (.row [.int .i64]), .leaf (.int .i64), .leaf (.int .i64)], [.own [.int .i64], .leaf (.int .i64)]⟩).same content_Starts = true := by decide +kernel
theorem ok_ref01_Ints : (treeOf Try.prog sg (sxDrawn Try.prog sg) 6 10 ⟨[.leaf (.row [.int .i64]), .leaf (.row [.int .i64])], [.leaf (.bool)]⟩).same ref01_Ints = true := by decide +kernel
theorem ok_law28_lives : (treeOf Try.prog sg (sxDrawn Try.prog sg) 6 7 ⟨[], [.leaf (.bool)]⟩).same law28_lives = true := by decide +kernel
theorem ok_ref06_isLen : (treeOf Try.prog sg (sxDrawn Try.prog sg) 6 44 ⟨[.agg [.int .i64, .int .i64]], [.leaf (.bool)]⟩).same ref06_isLen = true := by decide +kernel
theorem ok_ref05_bits : (treeOf Try.prog sg (sxDrawn Try.prog sg) 6 50 ⟨[.leaf (.int .i64)], [.leaf (.int .i64)]⟩).same ref05_bits = true := by decide +kernel
theorem ok_ref05_Has : (treeOf Try.prog sg (sxDrawn Try.prog sg) 6 51 ⟨[.leaf (.int .i64), .leaf (.int .i64)], [.leaf (.bool)]⟩).same ref05_Has = true := by decide +kernel
theorem ok_ref05_Good : (treeOf Try.prog sg (sxDrawn Try.prog sg) 6 45 ⟨[.agg [.int .i64, .int .i64], .leaf (.int .i64)], [.leaf (.bool)]⟩).same ref05_Good = true := by decide +kernel
theorem ok_ref06_Right : (treeOf Try.prog sg (sxDrawn Try.prog sg) 6 34 ⟨[.agg [.int .i64, .int .i64, .int .i64, .int .i64, .bool, .int .i64, .int .i64]], [.leaf (.bool)]⟩).same ref06_Right = true := by decide +kernel
end Go.Proofs.Ytbkohlhonhmhmaa.T
