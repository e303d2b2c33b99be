/- The trees that are written down are what the runner makes of the program's code (2 of 7). No condition. -/
import Derived.Test.YtckjdlmfibjpaaaGreatT
import Derived.Test.YtckjdlmfibjpaaaGreatProg
set_option maxRecDepth 100000
set_option linter.unusedVariables false
namespace Go.Proofs.YtckjdlmfibjpaaaGreat.T
open Go Go.Proofs.YtckjdlmfibjpaaaGreat.Sx Go.Proofs
def o_math_bits_Len64 : List (Nat × List (Nat × Df)) := [(1028532515055454140, [(2008463105064607501, ⟨3, 0, [([2, 0], [(2, (.ex (.int .i64) (v 1))), (0, (.ex (.int .u64) (v 2)))])], [], []⟩)]),
  (1366052815121787530, [(680045463539501353, ⟨5, 0, [([2, 0], [(2, (.ex (.int .i64) (v 3))), (0, (.ex (.int .u64) (v 4)))])], [], []⟩)]),
  (1703573115188120920, [(771332471884081455, ⟨7, 0, [([2, 0], [(2, (.ex (.int .i64) (v 5))), (0, (.ex (.int .u64) (v 6)))])], [], []⟩)])]
theorem ok_math_bits_Len64 : ∃ orc, (treeOf Tryz.prog sg (ofOrc orc) (sxDrawn Tryz.prog sg) 6 171 ⟨[.leaf (.int .u64)], [.leaf (.int .i64)]⟩).same math_bits_Len64 = true := ⟨orcOf o_math_bits_Len64, by kernel_rfl⟩
def o_math_bits_LeadingZeros64 : List (Nat × List (Nat × Df)) := []
theorem ok_math_bits_LeadingZeros64 : ∃ orc, (treeOf Tryz.prog sg (ofOrc orc) (sxDrawn Tryz.prog sg) 6 180 ⟨[.leaf (.int .u64)], [.leaf (.int .i64)]⟩).same math_bits_LeadingZeros64 = true := ⟨orcOf o_math_bits_LeadingZeros64, by kernel_rfl⟩
def o_math_bits_Div64 : List (Nat × List (Nat × Df)) := [(1936871492533959986, [(1693009225580968685, ⟨5, 0, [([15], [(15, (.ex (.int .u64) (v 4)))])], [], []⟩),
  (2266080260163148371, ⟨6, 0, [([16, 15], [(16, (.ex (.int .u64) (v 4))), (15, (.ex (.int .u64) (v 5)))])], [], []⟩)]),
  (2105631642567126681, [(2036847629968748548, ⟨6, 0, [([18], [(18, (.ex (.int .u64) (v 5)))])], [], []⟩),
  (601738783667926222, ⟨7, 0, [([16, 18], [(16, (.ex (.int .u64) (v 5))), (18, (.ex (.int .u64) (v 6)))])], [], []⟩)])]
theorem ok_math_bits_Div64 : ∃ orc, (treeOf Tryz.prog sg (ofOrc orc) (sxDrawn Tryz.prog sg) 6 122 ⟨[.leaf (.int .u64), .leaf (.int .u64), .leaf (.int .u64)], [.leaf (.int .u64), .leaf (.int .u64)]⟩).same math_bits_Div64 = true := ⟨orcOf o_math_bits_Div64, by kernel_rfl⟩
def o_fixed_MulDiv : List (Nat × List (Nat × Df)) := []
theorem ok_fixed_MulDiv : ∃ orc, (treeOf Tryz.prog sg (ofOrc orc) (sxDrawn Tryz.prog sg) 6 64 ⟨[.leaf (.int .i64), .leaf (.int .i64), .leaf (.int .i64)], [.leaf (.int .i64), .leaf (.int .i64)]⟩).same fixed_MulDiv = true := ⟨orcOf o_fixed_MulDiv, by kernel_rfl⟩
def o_fixed_Percent : List (Nat × List (Nat × Df)) := [(1654299982183464007, [(1348028743063336360, ⟨6, 0, [([], [(31, (.ex (.bool) (v 5)))])], [], []⟩)])]
theorem ok_fixed_Percent : ∃ orc, (treeOf Tryz.prog sg (ofOrc orc) (sxDrawn Tryz.prog sg) 6 149 ⟨[.leaf (.int .i64), .leaf (.int .i64)], [.leaf (.int .i64), .leaf (.int .i64)]⟩).same fixed_Percent = true := ⟨orcOf o_fixed_Percent, by kernel_rfl⟩
def o_value_Resolve : List (Nat × List (Nat × Df)) := []
theorem ok_value_Resolve : ∃ orc, (treeOf Tryz.prog sg (ofOrc orc) (sxDrawn Tryz.prog sg) 6 90 ⟨[.agg [.int .i64, .int .i64], .leaf (.int .i64), .leaf (.bool)], [.leaf (.int .i64), .leaf (.bool), .leaf (.int .i64)]⟩).same value_Resolve = true := ⟨orcOf o_value_Resolve, by kernel_rfl⟩
def o_base_kind : List (Nat × List (Nat × Df)) := [(699679391613340681, [(355730345541376581, ⟨3, 1, [([], [])], [0], []⟩)])]
theorem ok_base_kind : ∃ orc, (treeOf Tryz.prog sg (ofOrc orc) (sxDrawn Tryz.prog sg) 6 91 ⟨[.agg [.int .i64, .int .i64], .leaf (.bool)], [.leaf (.int .i64)]⟩).same base_kind = true := ⟨orcOf o_base_kind, by kernel_rfl⟩
def o_base_Raise : List (Nat × List (Nat × Df)) := [(708324461810241529, [(181826103466578498, ⟨8, 2, [([], [])], [0], [(0, (.box [(.ex (.int .i64) (v 0)), (.ex (.int .i64) (v 1)), (.ex (.int .i64) (v 2)), (.ex (.bool) (v 3)), (.ex (.int .i64) (v 4)), (.ex (.int .i64) (v 5)), (.ex (.int .i64) (v 7))]))]⟩)])]
theorem ok_base_Raise : ∃ orc, (treeOf Tryz.prog sg (ofOrc orc) (sxDrawn Tryz.prog sg) 6 61 ⟨[.agg [.int .i64, .int .i64, .int .i64, .bool, .int .i64, .int .i64, .int .i64]], [.agg [.int .i64, .int .i64, .int .i64, .bool, .int .i64, .int .i64, .int .i64]]⟩).same base_Raise = true := ⟨orcOf o_base_Raise, by kernel_rfl⟩
def o_base_Start : List (Nat × List (Nat × Df)) := [(877949499431055807, [(2147954629615371155, ⟨22, 8, [([], [])], [7, 6, 5, 4], [(7, (.box [(.ex (.int .i64) (v 19)), (.ex (.int .i64) (v 20)), (.ex (.int .i64) (n 0)), (.ex (.bool) (.bool false)), (.ex (.int .i64) (n 0)), (.ex (.int .i64) (v 10)), (.ex (.int .i64) (v 21))]))]⟩)]),
  (1046599117327627087, [(777752083931324135, ⟨23, 8, [([], [])], [7], [(7, (.box [(.ex (.int .i64) (v 19)), (.ex (.int .i64) (v 20)), (.ex (.int .i64) (v 22)), (.ex (.bool) (.bool false)), (.ex (.int .i64) (n 0)), (.ex (.int .i64) (v 10)), (.ex (.int .i64) (v 21))]))]⟩)]),
  (1215359267360793782, [(1252545493958356206, ⟨25, 8, [([], [])], [7, 3, 2, 0], [(7, (.box [(.ex (.int .i64) (v 19)), (.ex (.int .i64) (v 20)), (.ex (.int .i64) (v 22)), (.ex (.bool) (v 23)), (.ex (.int .i64) (v 24)), (.ex (.int .i64) (v 10)), (.ex (.int .i64) (v 21))]))]⟩)]),
  (1045866868303894002, [(1580169128886775326, ⟨10, 2, [([], [(28, (.ex (.bool) (v 9)))])], [], []⟩)])]
theorem ok_base_Start : ∃ orc, (treeOf Tryz.prog sg (ofOrc orc) (sxDrawn Tryz.prog sg) 6 37 ⟨[.agg [.int .i64, .int .i64, .int .i64, .int .i64, .bool, .int .i64, .int .i64], .leaf (.int .i64), .leaf (.bool)], [.agg [.int .i64, .int .i64, .int .i64, .bool, .int .i64, .int .i64, .int .i64], .leaf (.int .i64)]⟩).same base_Start = true := ⟨orcOf o_base_Start, by kernel_rfl⟩
def o_base_All : List (Nat × List (Nat × Df)) := [(944584883832694584, [(1692350084979756925, ⟨9, 3, [([25], [(25, (.ex (.int .i64) (v 7)))])], [1], [(1, (.rows [.int .i64, .int .i64, .int .i64, .bool, .int .i64, .int .i64, .int .i64] (v 8)))]⟩)]),
  (1518350868303268307, [(2299640781031233958, ⟨16, 4, [([], [])], [3], [(3, (.box [(.ex (.int .i64) (v 9)), (.ex (.int .i64) (v 10)), (.ex (.int .i64) (v 11)), (.ex (.int .i64) (v 12)), (.ex (.bool) (v 13)), (.ex (.int .i64) (v 14)), (.ex (.int .i64) (v 15))]))]⟩)])]
theorem ok_base_All : ∃ orc, (treeOf Tryz.prog sg (ofOrc orc) (sxDrawn Tryz.prog sg) 6 18 ⟨[.agg [.int .i64, .row [.int .i64, .int .i64, .int .i64, .int .i64, .bool, .int .i64, .int .i64], .row [.bool], .row [.int .i64]], .leaf (.int .i64), .leaf (.bool)], [.own [.int .i64, .int .i64, .int .i64, .bool, .int .i64, .int .i64, .int .i64], .leaf (.int .i64)]⟩).same base_All = true := ⟨orcOf o_base_All, by kernel_rfl⟩
def o_intrinsic_within : List (Nat × List (Nat × Df)) := []
theorem ok_intrinsic_within : ∃ orc, (treeOf Tryz.prog sg (ofOrc orc) (sxDrawn Tryz.prog sg) 6 95 ⟨[.leaf (.int .i64)], [.leaf (.bool)]⟩).same intrinsic_within = true := ⟨orcOf o_intrinsic_within, by kernel_rfl⟩
def o_intrinsic_Good_2 : List (Nat × List (Nat × Df)) := []
theorem ok_intrinsic_Good_2 : ∃ orc, (treeOf Tryz.prog sg (ofOrc orc) (sxDrawn Tryz.prog sg) 6 94 ⟨[.leaf (.int .i64)], [.leaf (.bool)]⟩).same intrinsic_Good_2 = true := ⟨orcOf o_intrinsic_Good_2, by kernel_rfl⟩
end Go.Proofs.YtckjdlmfibjpaaaGreat.T
