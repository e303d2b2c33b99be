/- The trees that are written down are what the runner makes of the program's code (3 of 4). No condition. -/
import Derived.Test.YtbebnjiolaomdaaT
import Derived.Test.YtbebnjiolaomdaaProg
set_option maxRecDepth 100000
set_option linter.unusedVariables false
namespace Go.Proofs.Ytbebnjiolaomdaa.T
open Go Go.Proofs.Ytbebnjiolaomdaa.Sx Go.Proofs
def o_pintrinsic_sizer_rounds_3 : List (Nat × List (Nat × Df)) := []
theorem ok_pintrinsic_sizer_rounds_3 : ∃ orc, (treeOf Try.prog sg (ofOrc orc) (sxDrawn Try.prog sg) 6 57 ⟨[.agg [.int .i64, .int .i64, .int .i64, .int .i64, .int .i64]], [.leaf (.int .i64)]⟩).same pintrinsic_sizer_rounds_3 = true := ⟨orcOf o_pintrinsic_sizer_rounds_3, by kernel_rfl⟩
def o_pintrinsic_sizer_rounds_6 : List (Nat × List (Nat × Df)) := []
theorem ok_pintrinsic_sizer_rounds_6 : ∃ orc, (treeOf Try.prog sg (ofOrc orc) (sxDrawn Try.prog sg) 6 60 ⟨[.agg [.int .i64, .int .i64, .int .i64, .bool, .int .i64, .int .i64, .int .i64]], [.leaf (.bool)]⟩).same pintrinsic_sizer_rounds_6 = true := ⟨orcOf o_pintrinsic_sizer_rounds_6, by kernel_rfl⟩
def o_pintrinsic_sizer_rounds_4 : List (Nat × List (Nat × Df)) := []
theorem ok_pintrinsic_sizer_rounds_4 : ∃ orc, (treeOf Try.prog sg (ofOrc orc) (sxDrawn Try.prog sg) 6 58 ⟨[.agg [.int .i64, .int .i64, .int .i64, .bool, .int .i64, .int .i64, .int .i64]], [.leaf (.bool)]⟩).same pintrinsic_sizer_rounds_4 = true := ⟨orcOf o_pintrinsic_sizer_rounds_4, by kernel_rfl⟩
def o_pintrinsic_sizer_several_1 : List (Nat × List (Nat × Df)) := []
theorem ok_pintrinsic_sizer_several_1 : ∃ orc, (treeOf Try.prog sg (ofOrc orc) (sxDrawn Try.prog sg) 6 39 ⟨[.agg [.int .i64, .int .i64, .int .i64, .int .i64, .int .i64]], [.leaf (.int .i64)]⟩).same pintrinsic_sizer_several_1 = true := ⟨orcOf o_pintrinsic_sizer_several_1, by kernel_rfl⟩
def o_pintrinsic_sizer_limits_1 : List (Nat × List (Nat × Df)) := []
theorem ok_pintrinsic_sizer_limits_1 : ∃ orc, (treeOf Try.prog sg (ofOrc orc) (sxDrawn Try.prog sg) 6 75 ⟨[.agg [.int .i64, .int .i64, .int .i64, .bool, .int .i64, .int .i64, .int .i64]], [.leaf (.int .i64)]⟩).same pintrinsic_sizer_limits_1 = true := ⟨orcOf o_pintrinsic_sizer_limits_1, by kernel_rfl⟩
def o_pintrinsic_sizer_limits_2 : List (Nat × List (Nat × Df)) := []
theorem ok_pintrinsic_sizer_limits_2 : ∃ orc, (treeOf Try.prog sg (ofOrc orc) (sxDrawn Try.prog sg) 6 76 ⟨[.agg [.int .i64, .int .i64, .int .i64, .bool, .int .i64, .int .i64, .int .i64]], [.leaf (.bool)]⟩).same pintrinsic_sizer_limits_2 = true := ⟨orcOf o_pintrinsic_sizer_limits_2, by kernel_rfl⟩
def o_pintrinsic_sizer_several_2 : List (Nat × List (Nat × Df)) := []
theorem ok_pintrinsic_sizer_several_2 : ∃ orc, (treeOf Try.prog sg (ofOrc orc) (sxDrawn Try.prog sg) 6 40 ⟨[.agg [.int .i64, .int .i64, .int .i64, .int .i64, .int .i64]], [.leaf (.int .i64)]⟩).same pintrinsic_sizer_several_2 = true := ⟨orcOf o_pintrinsic_sizer_several_2, by kernel_rfl⟩
def o_fixed_size : List (Nat × List (Nat × Df)) := []
theorem ok_fixed_size : ∃ orc, (treeOf Try.prog sg (ofOrc orc) (sxDrawn Try.prog sg) 6 98 ⟨[.leaf (.int .i64)], [.leaf (.int .u64)]⟩).same fixed_size = true := ⟨orcOf o_fixed_size, by kernel_rfl⟩
def o_math_bits_Mul64 : List (Nat × List (Nat × Df)) := []
theorem ok_math_bits_Mul64 : ∃ orc, (treeOf Try.prog sg (ofOrc orc) (sxDrawn Try.prog sg) 6 97 ⟨[.leaf (.int .u64), .leaf (.int .u64)], [.leaf (.int .u64), .leaf (.int .u64)]⟩).same math_bits_Mul64 = true := ⟨orcOf o_math_bits_Mul64, by kernel_rfl⟩
def o_math_bits_Len64 : List (Nat × List (Nat × Df)) := [(1028532515055454140, [(2008463105064607501, ⟨3, 0, [([2, 0], [(2, (.ex (.int .i64) (v 1))), (0, (.ex (.int .u64) (v 2)))])], [], []⟩)]),
  (1366052815121787530, [(680045463539501353, ⟨5, 0, [([2, 0], [(2, (.ex (.int .i64) (v 3))), (0, (.ex (.int .u64) (v 4)))])], [], []⟩)]),
  (1703573115188120920, [(771332471884081455, ⟨7, 0, [([2, 0], [(2, (.ex (.int .i64) (v 5))), (0, (.ex (.int .u64) (v 6)))])], [], []⟩)])]
theorem ok_math_bits_Len64 : ∃ orc, (treeOf Try.prog sg (ofOrc orc) (sxDrawn Try.prog sg) 6 74 ⟨[.leaf (.int .u64)], [.leaf (.int .i64)]⟩).same math_bits_Len64 = true := ⟨orcOf o_math_bits_Len64, by kernel_rfl⟩
def o_math_bits_LeadingZeros64 : List (Nat × List (Nat × Df)) := []
theorem ok_math_bits_LeadingZeros64 : ∃ orc, (treeOf Try.prog sg (ofOrc orc) (sxDrawn Try.prog sg) 6 100 ⟨[.leaf (.int .u64)], [.leaf (.int .i64)]⟩).same math_bits_LeadingZeros64 = true := ⟨orcOf o_math_bits_LeadingZeros64, by kernel_rfl⟩
def o_math_bits_Div64 : List (Nat × List (Nat × Df)) := [(1936871492533959986, [(1693009225580968685, ⟨5, 0, [([15], [(15, (.ex (.int .u64) (v 4)))])], [], []⟩),
  (2266080260163148371, ⟨6, 0, [([16, 15], [(16, (.ex (.int .u64) (v 4))), (15, (.ex (.int .u64) (v 5)))])], [], []⟩)]),
  (2105631642567126681, [(2036847629968748548, ⟨6, 0, [([18], [(18, (.ex (.int .u64) (v 5)))])], [], []⟩),
  (601738783667926222, ⟨7, 0, [([16, 18], [(16, (.ex (.int .u64) (v 5))), (18, (.ex (.int .u64) (v 6)))])], [], []⟩)])]
theorem ok_math_bits_Div64 : ∃ orc, (treeOf Try.prog sg (ofOrc orc) (sxDrawn Try.prog sg) 6 99 ⟨[.leaf (.int .u64), .leaf (.int .u64), .leaf (.int .u64)], [.leaf (.int .u64), .leaf (.int .u64)]⟩).same math_bits_Div64 = true := ⟨orcOf o_math_bits_Div64, by kernel_rfl⟩
end Go.Proofs.Ytbebnjiolaomdaa.T
