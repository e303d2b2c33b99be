/- The trees that are written down are what the runner makes of the program's code (3 of 3). No condition. -/
import Derived.Test.YtbebnjiolaomdaaT
import Derived.Test.YtbebnjiolaomdaaProg
set_option maxRecDepth 100000
set_option linter.unusedVariables false
namespace Go.Proofs.Ytbebnjiolaomdaa.T
open Go Go.Proofs.Ytbebnjiolaomdaa.Sx Go.Proofs
def o_law24_lives : List (Nat × List (Nat × Df)) := []
theorem ok_law24_lives : ∃ orc, (treeOf Try.prog sg (ofOrc orc) (sxDrawn Try.prog sg) 6 8 ⟨[], [.leaf (.bool)]⟩).same law24_lives = true := ⟨orcOf o_law24_lives, by kernel_rfl⟩
def o_law24_IntrinsicMore : List (Nat × List (Nat × Df)) := [(874093091930368791, [(1465594545819428573, ⟨8, 1, [([49], [(49, (.ex (.int .i64) (v 7)))])], [], []⟩)])]
theorem ok_law24_IntrinsicMore : ∃ orc, (treeOf Try.prog sg (ofOrc orc) (sxDrawn Try.prog sg) 6 4 ⟨[.leaf (.row [.int .i64, .int .i64, .int .i64, .bool, .int .i64, .int .i64, .int .i64]), .leaf (.row [.int .i64]), .leaf (.row [.int .i64, .int .i64, .int .i64, .int .i64, .int .i64]), .leaf (.int .i64)], [.leaf (.bool)]⟩).same law24_IntrinsicMore = true := ⟨orcOf o_law24_IntrinsicMore, by kernel_rfl⟩
def o_law24_IntrinsicEnough : List (Nat × List (Nat × Df)) := [(874100460739475152, [(214957265138089328, ⟨8, 1, [([52], [(52, (.ex (.int .i64) (v 7)))])], [], []⟩)]),
 (1279121032795094902, [(323395735598914374, ⟨12, 2, [([16, 15, 14, 13], [(16, (.ex (.int .i64) (v 8))), (15, (.ex (.bool) (v 9))), (14, (.ex (.bool) (v 10))), (13, (.ex (.int .i64) (v 11)))])], [], []⟩)]),
 (1002262023201311226, [(1927205225488004831, ⟨13, 2, [([13], [(13, (.ex (.int .i64) (v 12)))])], [], []⟩)])]
theorem ok_law24_IntrinsicEnough : ∃ orc, (treeOf Try.prog sg (ofOrc orc) (sxDrawn Try.prog sg) 6 3 ⟨[.leaf (.row [.int .i64, .int .i64, .int .i64, .bool, .int .i64, .int .i64, .int .i64]), .leaf (.row [.int .i64]), .leaf (.row [.int .i64, .int .i64, .int .i64, .int .i64, .int .i64]), .leaf (.int .i64)], [.leaf (.bool)]⟩).same law24_IntrinsicEnough = true := ⟨orcOf o_law24_IntrinsicEnough, by kernel_rfl⟩
def o_ref22_Same : List (Nat × List (Nat × Df)) := [(1648602219044964426, [(340407618400871150, ⟨3, 0, [([5], [(5, (.ex (.int .i64) (v 2)))])], [], []⟩)])]
theorem ok_ref22_Same : ∃ orc, (treeOf Try.prog sg (ofOrc orc) (sxDrawn Try.prog sg) 6 10 ⟨[.leaf (.row [.int .i64, .int .i64, .int .i64, .bool, .int .i64, .int .i64, .int .i64]), .leaf (.row [.int .i64, .int .i64, .int .i64, .bool, .int .i64, .int .i64, .int .i64])], [.leaf (.bool)]⟩).same ref22_Same = true := ⟨orcOf o_ref22_Same, by kernel_rfl⟩
def o_law24_IntrinsicTurned : List (Nat × List (Nat × Df)) := []
theorem ok_law24_IntrinsicTurned : ∃ orc, (treeOf Try.prog sg (ofOrc orc) (sxDrawn Try.prog sg) 6 5 ⟨[.leaf (.row [.int .i64, .int .i64, .int .i64, .bool, .int .i64, .int .i64, .int .i64]), .leaf (.row [.int .i64]), .leaf (.row [.int .i64, .int .i64, .int .i64, .int .i64, .int .i64]), .leaf (.int .i64), .leaf (.int .i64)], [.leaf (.bool)]⟩).same law24_IntrinsicTurned = true := ⟨orcOf o_law24_IntrinsicTurned, by kernel_rfl⟩
end Go.Proofs.Ytbebnjiolaomdaa.T
