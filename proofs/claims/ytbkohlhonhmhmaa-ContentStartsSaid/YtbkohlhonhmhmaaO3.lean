/- The trees that are written down are what the runner makes of the program's code (3 of 3). No condition. -/
import Derived.Test.YtbkohlhonhmhmaaT
import Derived.Test.YtbkohlhonhmhmaaProg
set_option maxRecDepth 100000
set_option linter.unusedVariables false
namespace Go.Proofs.Ytbkohlhonhmhmaa.T
open Go Go.Proofs.Ytbkohlhonhmhmaa.Sx Go.Proofs
theorem ok_ref21_within : (treeOf Try.prog sg (sxDrawn Try.prog sg) 6 35 ⟨[.leaf (.int .i64)], [.leaf (.bool)]⟩).same ref21_within = true := by decide +kernel
theorem ok_ref21_Good : (treeOf Try.prog sg (sxDrawn Try.prog sg) 6 28 ⟨[.agg [.int .i64, .row [.int .i64, .int .i64, .int .i64, .int .i64, .bool, .int .i64, .int .i64], .row [.bool], .row [.int .i64]]], [.leaf (.bool)]⟩).same ref21_Good = true := by decide +kernel
theorem ok_ref27_Sum : (treeOf Try.prog sg (sxDrawn Try.prog sg) 6 20 ⟨[.agg [.int .i64, .row [.int .i64, .int .i64, .int .i64, .int .i64, .bool, .int .i64, .int .i64], .row [.bool], .row [.int .i64]], .leaf (.row [.int .i64])], [.leaf (.int .i64), .leaf (.int .i64)]⟩).same ref27_Sum = true := by decide +kernel
theorem ok_ref01_Div : (treeOf Try.prog sg (sxDrawn Try.prog sg) 6 29 ⟨[.leaf (.int .i64), .leaf (.int .i64)], [.leaf (.int .i64)]⟩).same ref01_Div = true := by decide +kernel
theorem ok_ref01_size : (treeOf Try.prog sg (sxDrawn Try.prog sg) 6 38 ⟨[.leaf (.int .i64)], [.leaf (.int .u64)]⟩).same ref01_size = true := by decide +kernel
theorem ok_ref01_Wide_twice : (treeOf Try.prog sg (sxDrawn Try.prog sg) 6 46 ⟨[.agg [.int .u64, .int .u64], .leaf (.int .u64)], [.agg [.int .u64, .int .u64]]⟩).same ref01_Wide_twice = true := by decide +kernel
theorem ok_ref01_Wide_plus : (treeOf Try.prog sg (sxDrawn Try.prog sg) 6 39 ⟨[.agg [.int .u64, .int .u64], .leaf (.int .u64)], [.agg [.int .u64, .int .u64]]⟩).same ref01_Wide_plus = true := by decide +kernel
theorem ok_ref01_product : (treeOf Try.prog sg (sxDrawn Try.prog sg) 6 37 ⟨[.leaf (.int .u64), .leaf (.int .u64)], [.agg [.int .u64, .int .u64]]⟩).same ref01_product = true := by decide +kernel
theorem ok_ref01_quotient : (treeOf Try.prog sg (sxDrawn Try.prog sg) 6 36 ⟨[.agg [.int .u64, .int .u64], .leaf (.int .u64)], [.agg [.int .u64, .int .u64], .leaf (.int .u64)]⟩).same ref01_quotient = true := by decide +kernel
theorem ok_ref01_MulDiv : (treeOf Try.prog sg (sxDrawn Try.prog sg) 6 30 ⟨[.leaf (.int .i64), .leaf (.int .i64), .leaf (.int .i64)], [.leaf (.int .i64), .leaf (.int .i64)]⟩).same ref01_MulDiv = true := by decide +kernel
theorem ok_ref28_added : (treeOf Try.prog sg (sxDrawn Try.prog sg) 6 21 ⟨[.leaf (.int .i64), .leaf (.int .i64), .leaf (.int .i64), .leaf (.int .i64)], [.leaf (.int .i64)]⟩).same ref28_added = true := by decide +kernel
theorem ok_ref28_Starts : (treeOf Try.prog sg (sxDrawn Try.prog sg) 6 9 ⟨[.agg [.int .i64, .row [.int .i64, .int .i64, .int .i64, .int .i64, .bool, .int .i64, .int .i64], .row [.bool], .row [.int .i64]], .leaf (.row [.int .i64]), .leaf (.int .i64), .leaf (.int .i64)], [.own [.int .i64], .leaf (.int .i64)]⟩).same ref28_Starts = true := by decide +kernel
theorem ok_law28_ContentStarts : (treeOf Try.prog sg (sxDrawn Try.prog sg) 6 3 ⟨[.agg [.int .i64, .row [.int .i64, .int .i64, .int .i64, .int .i64, .bool, .int .i64, .int .i64], .row [.bool], .row [.int .i64]], .leaf (.row [.int .i64]), .leaf (.int .i64), .leaf (.int .i64)], [.leaf (.bool)]⟩).same law28_ContentStarts = true := by decide +kernel
end Go.Proofs.Ytbkohlhonhmhmaa.T
