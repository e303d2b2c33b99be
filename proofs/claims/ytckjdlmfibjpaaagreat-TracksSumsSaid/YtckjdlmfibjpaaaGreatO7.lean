/- The trees that are written down are what the runner makes of the program's code (7 of 7). No condition. -/
import Derived.Test.YtckjdlmfibjpaaaGreatT
import Derived.Test.YtckjdlmfibjpaaaGreatProg
set_option maxRecDepth 100000
set_option linter.unusedVariables false
namespace Go.Proofs.YtckjdlmfibjpaaaGreat.T
open Go Go.Proofs.YtckjdlmfibjpaaaGreat.Sx Go.Proofs
def o_tracks_Sum : List (Nat × List (Nat × Df)) := [(874100460739475152, [(2100686736735590121, ⟨9, 1, [([33, 4], [(33, (.ex (.int .i64) (v 7))), (4, (.ex (.int .i64) (v 8)))])], [], []⟩)]),
  (254038125559071227, [(2241752436176828184, ⟨7, 1, [([23], [(23, (.ex (.int .i64) (v 6)))])], [], []⟩)])]
theorem ok_tracks_Sum : ∃ orc, (treeOf Tryz.prog sg (ofOrc orc) (sxDrawn Tryz.prog sg) 6 13 ⟨[.agg [.int .i64, .row [.int .i64, .int .i64, .int .i64, .int .i64, .bool, .int .i64, .int .i64], .row [.bool], .row [.int .i64]], .leaf (.row [.int .i64])], [.leaf (.int .i64), .leaf (.int .i64)]⟩).same tracks_Sum = true := ⟨orcOf o_tracks_Sum, by kernel_rfl⟩
def o_ref01_Ints : List (Nat × List (Nat × Df)) := [(1648602219044964426, [(340407618400871150, ⟨3, 0, [([5], [(5, (.ex (.int .i64) (v 2)))])], [], []⟩)])]
theorem ok_ref01_Ints : ∃ orc, (treeOf Tryz.prog sg (ofOrc orc) (sxDrawn Tryz.prog sg) 6 12 ⟨[.leaf (.row [.int .i64]), .leaf (.row [.int .i64])], [.leaf (.bool)]⟩).same ref01_Ints = true := ⟨orcOf o_ref01_Ints, by kernel_rfl⟩
def o_law27_lives : List (Nat × List (Nat × Df)) := []
theorem ok_law27_lives : ∃ orc, (treeOf Tryz.prog sg (ofOrc orc) (sxDrawn Tryz.prog sg) 6 9 ⟨[], [.leaf (.bool)]⟩).same law27_lives = true := ⟨orcOf o_law27_lives, by kernel_rfl⟩
def o_ref06_isLen : List (Nat × List (Nat × Df)) := []
theorem ok_ref06_isLen : ∃ orc, (treeOf Tryz.prog sg (ofOrc orc) (sxDrawn Tryz.prog sg) 6 123 ⟨[.agg [.int .i64, .int .i64]], [.leaf (.bool)]⟩).same ref06_isLen = true := ⟨orcOf o_ref06_isLen, by kernel_rfl⟩
def o_ref05_bits : List (Nat × List (Nat × Df)) := []
theorem ok_ref05_bits : ∃ orc, (treeOf Tryz.prog sg (ofOrc orc) (sxDrawn Tryz.prog sg) 6 181 ⟨[.leaf (.int .i64)], [.leaf (.int .i64)]⟩).same ref05_bits = true := ⟨orcOf o_ref05_bits, by kernel_rfl⟩
def o_ref05_Has : List (Nat × List (Nat × Df)) := []
theorem ok_ref05_Has : ∃ orc, (treeOf Tryz.prog sg (ofOrc orc) (sxDrawn Tryz.prog sg) 6 182 ⟨[.leaf (.int .i64), .leaf (.int .i64)], [.leaf (.bool)]⟩).same ref05_Has = true := ⟨orcOf o_ref05_Has, by kernel_rfl⟩
def o_ref05_Good : List (Nat × List (Nat × Df)) := [(1319756464411957328, [(1160302766985278254, ⟨5, 1, [([6], [(6, (.ex (.int .i64) (v 4)))])], [], []⟩)]),
  (1771058649559194558, [(697162863407813338, ⟨5, 1, [([6], [(6, (.ex (.int .i64) (v 4)))])], [], []⟩)]),
  (2222353465897325427, [(324196840146941967, ⟨5, 1, [([], [(50, (.ex (.bool) (v 4)))])], [], []⟩)])]
theorem ok_ref05_Good : ∃ orc, (treeOf Tryz.prog sg (ofOrc orc) (sxDrawn Tryz.prog sg) 6 124 ⟨[.agg [.int .i64, .int .i64], .leaf (.int .i64)], [.leaf (.bool)]⟩).same ref05_Good = true := ⟨orcOf o_ref05_Good, by kernel_rfl⟩
def o_ref06_Right : List (Nat × List (Nat × Df)) := []
theorem ok_ref06_Right : ∃ orc, (treeOf Tryz.prog sg (ofOrc orc) (sxDrawn Tryz.prog sg) 6 66 ⟨[.agg [.int .i64, .int .i64, .int .i64, .int .i64, .bool, .int .i64, .int .i64]], [.leaf (.bool)]⟩).same ref06_Right = true := ⟨orcOf o_ref06_Right, by kernel_rfl⟩
def o_ref21_within : List (Nat × List (Nat × Df)) := []
theorem ok_ref21_within : ∃ orc, (treeOf Tryz.prog sg (ofOrc orc) (sxDrawn Tryz.prog sg) 6 67 ⟨[.leaf (.int .i64)], [.leaf (.bool)]⟩).same ref21_within = true := ⟨orcOf o_ref21_within, by kernel_rfl⟩
def o_ref21_Good : List (Nat × List (Nat × Df)) := [(318458451926041822, [(4515646721939439, ⟨5, 1, [([3], [(3, (.ex (.int .i64) (v 4)))])], [], []⟩)]),
  (938557631151977552, [(393243532328632668, ⟨6, 1, [([], [(77, (.ex (.bool) (v 5)))])], [], []⟩)])]
theorem ok_ref21_Good : ∃ orc, (treeOf Tryz.prog sg (ofOrc orc) (sxDrawn Tryz.prog sg) 6 27 ⟨[.agg [.int .i64, .row [.int .i64, .int .i64, .int .i64, .int .i64, .bool, .int .i64, .int .i64], .row [.bool], .row [.int .i64]]], [.leaf (.bool)]⟩).same ref21_Good = true := ⟨orcOf o_ref21_Good, by kernel_rfl⟩
def o_ref27_Sum : List (Nat × List (Nat × Df)) := [(874085723121262430, [(1268611133336001224, ⟨9, 1, [([8, 7], [(8, (.ex (.int .i64) (v 7))), (7, (.ex (.int .i64) (v 8)))])], [], []⟩)]),
  (254016019131752144, [(1370767722714929416, ⟨7, 1, [([6], [(6, (.ex (.int .i64) (v 6)))])], [], []⟩)])]
theorem ok_ref27_Sum : ∃ orc, (treeOf Tryz.prog sg (ofOrc orc) (sxDrawn Tryz.prog sg) 6 14 ⟨[.agg [.int .i64, .row [.int .i64, .int .i64, .int .i64, .int .i64, .bool, .int .i64, .int .i64], .row [.bool], .row [.int .i64]], .leaf (.row [.int .i64])], [.leaf (.int .i64), .leaf (.int .i64)]⟩).same ref27_Sum = true := ⟨orcOf o_ref27_Sum, by kernel_rfl⟩
def o_law27_TracksSums : List (Nat × List (Nat × Df)) := []
theorem ok_law27_TracksSums : ∃ orc, (treeOf Tryz.prog sg (ofOrc orc) (sxDrawn Tryz.prog sg) 6 4 ⟨[.agg [.int .i64, .row [.int .i64, .int .i64, .int .i64, .int .i64, .bool, .int .i64, .int .i64], .row [.bool], .row [.int .i64]], .leaf (.row [.int .i64])], [.leaf (.bool)]⟩).same law27_TracksSums = true := ⟨orcOf o_law27_TracksSums, by kernel_rfl⟩
end Go.Proofs.YtckjdlmfibjpaaaGreat.T
