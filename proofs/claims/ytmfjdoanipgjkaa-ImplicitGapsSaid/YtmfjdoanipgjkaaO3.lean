/- The trees that are written down are what the runner makes of the program's code (3 of 3). No condition. -/
import Derived.Test.YtmfjdoanipgjkaaT
import Derived.Test.YtmfjdoanipgjkaaProg
set_option maxRecDepth 100000
set_option linter.unusedVariables false
namespace Go.Proofs.Ytmfjdoanipgjkaa.T
open Go Go.Proofs.Ytmfjdoanipgjkaa.Sx Go.Proofs
theorem ok_ref05_Has : (treeOf Try.prog sg (sxDrawn Try.prog sg) 6 40 ⟨[.leaf (.int .i64), .leaf (.int .i64)], [.leaf (.bool)]⟩).same ref05_Has = true := by decide +kernel
theorem ok_ref05_Good : (treeOf Try.prog sg (sxDrawn Try.prog sg) 6 29 ⟨[.agg [.int .i64, .int .i64], .leaf (.int .i64)], [.leaf (.bool)]⟩).same ref05_Good = true := by decide +kernel
theorem ok_ref06_Right : (treeOf Try.prog sg (sxDrawn Try.prog sg) 6 16 ⟨[.agg [.int .i64, .int .i64, .int .i64, .int .i64, .bool, .int .i64, .int .i64]], [.leaf (.bool)]⟩).same ref06_Right = true := by decide +kernel
theorem ok_ref21_within : (treeOf Try.prog sg (sxDrawn Try.prog sg) 6 17 ⟨[.leaf (.int .i64)], [.leaf (.bool)]⟩).same ref21_within = true := by decide +kernel
theorem ok_ref21_Good : (treeOf Try.prog sg (sxDrawn Try.prog sg) 6 7 ⟨[.agg [.int .i64, .row [.int .i64, .int .i64, .int .i64, .int .i64, .bool, .int .i64, .int .i64], .row [.bool], .row [.int .i64]]], [.leaf (.bool)]⟩).same ref21_Good = true := by decide +kernel
theorem ok_ref21_Total : (treeOf Try.prog sg (sxDrawn Try.prog sg) 6 9 ⟨[.agg [.int .i64, .row [.int .i64, .int .i64, .int .i64, .int .i64, .bool, .int .i64, .int .i64], .row [.bool], .row [.int .i64]]], [.leaf (.int .i64)]⟩).same ref21_Total = true := by decide +kernel
theorem ok_law21_ImplicitGood : (treeOf Try.prog sg (sxDrawn Try.prog sg) 6 3 ⟨[.agg [.int .i64, .row [.int .i64, .int .i64, .int .i64, .int .i64, .bool, .int .i64, .int .i64], .row [.bool], .row [.int .i64]]], [.leaf (.bool)]⟩).same law21_ImplicitGood = true := by decide +kernel
theorem ok_law21_light : (treeOf Try.prog sg (sxDrawn Try.prog sg) 6 10 ⟨[.agg [.row [.row [.str]], .row [.int .i64, .int .i64, .int .i64, .int .i64, .bool, .int .i64, .int .i64], .int .i64, .int .i64], .leaf (.row [.int .i64, .int .i64, .int .i64, .int .i64, .bool, .int .i64, .int .i64]), .leaf (.row [.int .i64, .int .i64, .int .i64, .int .i64])], [.leaf (.bool)]⟩).same law21_light = true := by decide +kernel
theorem ok_ref19_Good : (treeOf Try.prog sg (sxDrawn Try.prog sg) 6 12 ⟨[.agg [.int .i64, .int .i64, .int .i64, .int .i64]], [.leaf (.bool)]⟩).same ref19_Good = true := by decide +kernel
theorem ok_law21_ImplicitGaps : (treeOf Try.prog sg (sxDrawn Try.prog sg) 6 4 ⟨[.agg [.row [.row [.str]], .row [.int .i64, .int .i64, .int .i64, .int .i64, .bool, .int .i64, .int .i64], .int .i64, .int .i64], .leaf (.int .i64), .leaf (.row [.int .i64, .int .i64, .int .i64, .int .i64, .bool, .int .i64, .int .i64]), .leaf (.row [.int .i64, .int .i64, .int .i64, .int .i64]), .leaf (.bool), .leaf (.int .i64)], [.leaf (.bool)]⟩).same law21_ImplicitGaps = true := by decide +kernel
end Go.Proofs.Ytmfjdoanipgjkaa.T
