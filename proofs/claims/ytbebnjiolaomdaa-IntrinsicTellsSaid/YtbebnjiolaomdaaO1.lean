/- The trees that are written down are what the runner makes of the program's code (1 of 5). No condition. -/
import Derived.Test.YtbebnjiolaomdaaT
import Derived.Test.YtbebnjiolaomdaaProg
set_option maxRecDepth 100000
set_option linter.unusedVariables false
namespace Go.Proofs.Ytbebnjiolaomdaa.T
open Go Go.Proofs.Ytbebnjiolaomdaa.Sx Go.Proofs
def o_law24_light : List (Nat × List (Nat × Df)) := []
theorem ok_law24_light : ∃ orc, (treeOf Try.prog sg (ofOrc orc) (sxDrawn Try.prog sg) 6 7 ⟨[.leaf (.row [.int .i64, .int .i64, .int .i64, .bool, .int .i64, .int .i64, .int .i64]), .leaf (.row [.int .i64]), .leaf (.row [.int .i64, .int .i64, .int .i64, .int .i64, .int .i64])], [.leaf (.bool)]⟩).same law24_light = true := ⟨orcOf o_law24_light, by kernel_rfl⟩
def o_fixed_Is : List (Nat × List (Nat × Df)) := []
theorem ok_fixed_Is : ∃ orc, (treeOf Try.prog sg (ofOrc orc) (sxDrawn Try.prog sg) 6 49 ⟨[.leaf (.int .i64)], [.leaf (.bool)]⟩).same fixed_Is = true := ⟨orcOf o_fixed_Is, by kernel_rfl⟩
def o_intrinsic_within : List (Nat × List (Nat × Df)) := []
theorem ok_intrinsic_within : ∃ orc, (treeOf Try.prog sg (ofOrc orc) (sxDrawn Try.prog sg) 6 22 ⟨[.leaf (.int .i64)], [.leaf (.bool)]⟩).same intrinsic_within = true := ⟨orcOf o_intrinsic_within, by kernel_rfl⟩
def o_intrinsic_Good_2 : List (Nat × List (Nat × Df)) := []
theorem ok_intrinsic_Good_2 : ∃ orc, (treeOf Try.prog sg (ofOrc orc) (sxDrawn Try.prog sg) 6 28 ⟨[.leaf (.int .i64)], [.leaf (.bool)]⟩).same intrinsic_Good_2 = true := ⟨orcOf o_intrinsic_Good_2, by kernel_rfl⟩
def o_base_Good_1 : List (Nat × List (Nat × Df)) := []
theorem ok_base_Good_1 : ∃ orc, (treeOf Try.prog sg (ofOrc orc) (sxDrawn Try.prog sg) 6 53 ⟨[.leaf (.int .i64), .leaf (.int .i64), .leaf (.int .i64)], [.leaf (.bool)]⟩).same base_Good_1 = true := ⟨orcOf o_base_Good_1, by kernel_rfl⟩
def o_base_Good : List (Nat × List (Nat × Df)) := [(734755977132616005, [(1929182915162172078, ⟨8, 1, [([], [(4, (.ex (.bool) (v 7)))])], [], []⟩)])]
theorem ok_base_Good : ∃ orc, (treeOf Try.prog sg (ofOrc orc) (sxDrawn Try.prog sg) 6 27 ⟨[.agg [.int .i64, .int .i64, .int .i64, .bool, .int .i64, .int .i64, .int .i64]], [.leaf (.bool)]⟩).same base_Good = true := ⟨orcOf o_base_Good, by kernel_rfl⟩
def o_intrinsic_Good_1 : List (Nat × List (Nat × Df)) := []
theorem ok_intrinsic_Good_1 : ∃ orc, (treeOf Try.prog sg (ofOrc orc) (sxDrawn Try.prog sg) 6 26 ⟨[.agg [.int .i64, .int .i64, .int .i64, .bool, .int .i64, .int .i64, .int .i64]], [.leaf (.bool)]⟩).same intrinsic_Good_1 = true := ⟨orcOf o_intrinsic_Good_1, by kernel_rfl⟩
def o_intrinsic_Good : List (Nat × List (Nat × Df)) := [(1703070686259976551, [(2223323862075155391, ⟨6, 0, [([43], [(43, (.ex (.int .i64) (v 5)))])], [], []⟩)]),
  (565998827121449349, [(1013256426017153685, ⟨7, 1, [([], [(81, (.ex (.bool) (v 6)))])], [0], []⟩)]),
  (1534309536221809850, [(501855584011803978, ⟨5, 0, [([], [(40, (.ex (.bool) (v 4)))])], [], []⟩)]),
  (1703077686326976723, [(1070387643243931857, ⟨6, 0, [([], [(4, (.ex (.int .i64) (v 5)))]), ([], []), ([38, 37], [])], [], []⟩)]),
  (1703077686330976735, [(1510740715710238727, ⟨6, 0, [([8], [(8, (.ex (.int .i64) (v 5)))]), ([], []), ([38, 37], [])], [], []⟩)]),
  (1534316536291810031, [(404744474178645701, ⟨5, 0, [([], [(4, (.ex (.int .i64) (v 4)))]), ([], []), ([33, 32, 29, 28, 25, 24, 21, 20, 19], [])], [], []⟩)]),
  (1534316536295810043, [(788298455394312792, ⟨5, 0, [([8], [(8, (.ex (.int .i64) (v 4)))]), ([], []), ([33, 32, 29, 28, 25, 24, 21, 20, 19], [])], [], []⟩)])]
theorem ok_intrinsic_Good : ∃ orc, (treeOf Try.prog sg (ofOrc orc) (sxDrawn Try.prog sg) 6 13 ⟨[.leaf (.row [.int .i64, .int .i64, .int .i64, .bool, .int .i64, .int .i64, .int .i64]), .leaf (.row [.int .i64]), .leaf (.row [.int .i64, .int .i64, .int .i64, .int .i64, .int .i64]), .leaf (.int .i64)], [.leaf (.bool)]⟩).same intrinsic_Good = true := ⟨orcOf o_intrinsic_Good, by kernel_rfl⟩
def o_slices_Clone___api_Sizing_api_Sizing_ : List (Nat × List (Nat × Df)) := []
theorem ok_slices_Clone___api_Sizing_api_Sizing_ : ∃ orc, (treeOf Try.prog sg (ofOrc orc) (sxDrawn Try.prog sg) 6 15 ⟨[.leaf (.row [.int .i64, .int .i64, .int .i64, .bool, .int .i64, .int .i64, .int .i64])], [.own [.int .i64, .int .i64, .int .i64, .bool, .int .i64, .int .i64, .int .i64]]⟩).same slices_Clone___api_Sizing_api_Sizing_ = true := ⟨orcOf o_slices_Clone___api_Sizing_api_Sizing_, by kernel_rfl⟩
def o_intrinsic_loose : List (Nat × List (Nat × Df)) := []
theorem ok_intrinsic_loose : ∃ orc, (treeOf Try.prog sg (ofOrc orc) (sxDrawn Try.prog sg) 6 38 ⟨[.agg [.int .i64, .int .i64, .int .i64, .bool, .int .i64, .int .i64, .int .i64]], [.leaf (.bool)]⟩).same intrinsic_loose = true := ⟨orcOf o_intrinsic_loose, by kernel_rfl⟩
def o_intrinsic_limit : List (Nat × List (Nat × Df)) := []
theorem ok_intrinsic_limit : ∃ orc, (treeOf Try.prog sg (ofOrc orc) (sxDrawn Try.prog sg) 6 41 ⟨[.agg [.int .i64, .int .i64, .int .i64, .bool, .int .i64, .int .i64, .int .i64]], [.leaf (.int .i64)]⟩).same intrinsic_limit = true := ⟨orcOf o_intrinsic_limit, by kernel_rfl⟩
def o_pintrinsic_sizer_rounds_1 : List (Nat × List (Nat × Df)) := []
theorem ok_pintrinsic_sizer_rounds_1 : ∃ orc, (treeOf Try.prog sg (ofOrc orc) (sxDrawn Try.prog sg) 6 55 ⟨[.agg [.int .i64, .int .i64, .int .i64, .int .i64, .int .i64]], [.leaf (.int .i64)]⟩).same pintrinsic_sizer_rounds_1 = true := ⟨orcOf o_pintrinsic_sizer_rounds_1, by kernel_rfl⟩
end Go.Proofs.Ytbebnjiolaomdaa.T
