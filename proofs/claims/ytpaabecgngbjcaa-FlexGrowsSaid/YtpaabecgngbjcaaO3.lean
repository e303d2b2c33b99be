/- The trees that are written down are what the runner makes of the program's code (3 of 4). No condition. -/
import Derived.Test.YtpaabecgngbjcaaT
import Derived.Test.YtpaabecgngbjcaaProg
set_option maxRecDepth 100000
set_option linter.unusedVariables false
namespace Go.Proofs.Ytpaabecgngbjcaa.T
open Go Go.Proofs.Ytpaabecgngbjcaa.Sx Go.Proofs
theorem ok_ref01_Is : (treeOf Try.prog sg (sxDrawn Try.prog sg) 6 48 ⟨[.leaf (.int .i64)], [.leaf (.bool)]⟩).same ref01_Is = true := by decide +kernel
theorem ok_ref26_right : (treeOf Try.prog sg (sxDrawn Try.prog sg) 6 28 ⟨[.leaf (.row [.int .i64, .int .i64, .int .i64, .bool, .int .i64, .int .i64, .int .i64]), .leaf (.int .i64)], [.leaf (.bool)]⟩).same ref26_right = true := by decide +kernel
theorem ok_ref26_flexible : (treeOf Try.prog sg (sxDrawn Try.prog sg) 6 33 ⟨[.agg [.int .i64, .int .i64, .int .i64, .bool, .int .i64, .int .i64, .int .i64]], [.leaf (.bool)]⟩).same ref26_flexible = true := by decide +kernel
theorem ok_ref26_sum : (treeOf Try.prog sg (sxDrawn Try.prog sg) 6 30 ⟨[.leaf (.row [.int .i64, .int .i64, .int .i64, .bool, .int .i64, .int .i64, .int .i64]), .leaf (.row [.bool])], [.leaf (.int .i64), .leaf (.bool)]⟩).same ref26_sum = true := by decide +kernel
theorem ok_ref26_left : (treeOf Try.prog sg (sxDrawn Try.prog sg) 6 32 ⟨[.leaf (.row [.int .i64, .int .i64, .int .i64, .bool, .int .i64, .int .i64, .int .i64]), .leaf (.row [.bool]), .leaf (.int .i64)], [.leaf (.int .i64)]⟩).same ref26_left = true := by decide +kernel
theorem ok_ref01_size : (treeOf Try.prog sg (sxDrawn Try.prog sg) 6 51 ⟨[.leaf (.int .i64)], [.leaf (.int .u64)]⟩).same ref01_size = true := by decide +kernel
theorem ok_ref01_Wide_twice : (treeOf Try.prog sg (sxDrawn Try.prog sg) 6 60 ⟨[.agg [.int .u64, .int .u64], .leaf (.int .u64)], [.agg [.int .u64, .int .u64]]⟩).same ref01_Wide_twice = true := by decide +kernel
theorem ok_ref01_Wide_plus : (treeOf Try.prog sg (sxDrawn Try.prog sg) 6 52 ⟨[.agg [.int .u64, .int .u64], .leaf (.int .u64)], [.agg [.int .u64, .int .u64]]⟩).same ref01_Wide_plus = true := by decide +kernel
theorem ok_ref01_product : (treeOf Try.prog sg (sxDrawn Try.prog sg) 6 50 ⟨[.leaf (.int .u64), .leaf (.int .u64)], [.agg [.int .u64, .int .u64]]⟩).same ref01_product = true := by decide +kernel
theorem ok_ref01_quotient : (treeOf Try.prog sg (sxDrawn Try.prog sg) 6 49 ⟨[.agg [.int .u64, .int .u64], .leaf (.int .u64)], [.agg [.int .u64, .int .u64], .leaf (.int .u64)]⟩).same ref01_quotient = true := by decide +kernel
theorem ok_ref01_MulDiv : (treeOf Try.prog sg (sxDrawn Try.prog sg) 6 35 ⟨[.leaf (.int .i64), .leaf (.int .i64), .leaf (.int .i64)], [.leaf (.int .i64), .leaf (.int .i64)]⟩).same ref01_MulDiv = true := by decide +kernel
theorem ok_ref26_stiff : (treeOf Try.prog sg (sxDrawn Try.prog sg) 6 29 ⟨[.leaf (.row [.int .i64, .int .i64, .int .i64, .bool, .int .i64, .int .i64, .int .i64]), .leaf (.int .i64)], [.own [.bool]]⟩).same ref26_stiff = true := by decide +kernel
theorem ok_ref26_up : (treeOf Try.prog sg (sxDrawn Try.prog sg) 6 31 ⟨[.leaf (.int .i64), .leaf (.int .i64), .leaf (.int .i64)], [.leaf (.int .i64)]⟩).same ref26_up = true := by decide +kernel
theorem ok_ref26_Unit : (treeOf Try.prog sg (sxDrawn Try.prog sg) 6 10 ⟨[.leaf (.row [.int .i64, .int .i64, .int .i64, .bool, .int .i64, .int .i64, .int .i64]), .leaf (.int .i64)], [.leaf (.int .i64)]⟩).same ref26_Unit = true := by decide +kernel
end Go.Proofs.Ytpaabecgngbjcaa.T
