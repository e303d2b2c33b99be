/- The trees that are written down are what the runner makes of the program's code (3 of 3). No condition. -/
import Derived.Test.YtolgoenpckiggaaT
import Derived.Test.YtolgoenpckiggaaProg
set_option maxRecDepth 100000
set_option linter.unusedVariables false
namespace Go.Proofs.Ytolgoenpckiggaa.T
open Go Go.Proofs.Ytolgoenpckiggaa.Sx Go.Proofs
theorem ok_ref25_Full : (treeOf Try.prog sg (sxDrawn Try.prog sg) 6 15 ⟨[.leaf (.row [.int .i64, .int .i64, .int .i64, .bool, .int .i64, .int .i64, .int .i64])], [.leaf (.row [.int .i64, .int .i64, .int .i64, .bool, .int .i64, .int .i64, .int .i64])]⟩).same ref25_Full = true := by decide +kernel
theorem ok_ref01_Split : (treeOf Try.prog sg (sxDrawn Try.prog sg) 6 32 ⟨[.leaf (.int .i64), .leaf (.int .i64)], [.own [.int .i64]]⟩).same ref01_Split = true := by decide +kernel
theorem ok_ref22_Raise : (treeOf Try.prog sg (sxDrawn Try.prog sg) 6 33 ⟨[.agg [.int .i64, .int .i64, .int .i64, .bool, .int .i64, .int .i64, .int .i64]], [.agg [.int .i64, .int .i64, .int .i64, .bool, .int .i64, .int .i64, .int .i64]]⟩).same ref22_Raise = true := by decide +kernel
theorem ok_ref25_Stretch : (treeOf Try.prog sg (sxDrawn Try.prog sg) 6 16 ⟨[.leaf (.row [.int .i64, .int .i64, .int .i64, .bool, .int .i64, .int .i64, .int .i64]), .leaf (.int .i64)], [.leaf (.row [.int .i64, .int .i64, .int .i64, .bool, .int .i64, .int .i64, .int .i64])]⟩).same ref25_Stretch = true := by decide +kernel
theorem ok_law25_MaximiseTells : (treeOf Try.prog sg (sxDrawn Try.prog sg) 6 5 ⟨[.leaf (.row [.int .i64, .int .i64, .int .i64, .bool, .int .i64, .int .i64, .int .i64]), .leaf (.row [.int .i64]), .leaf (.int .i64)], [.leaf (.bool)]⟩).same law25_MaximiseTells = true := by decide +kernel
end Go.Proofs.Ytolgoenpckiggaa.T
