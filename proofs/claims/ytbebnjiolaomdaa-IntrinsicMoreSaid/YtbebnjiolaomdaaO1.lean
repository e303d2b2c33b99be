/- The trees that are written down are what the runner makes of the program's code (1 of 4). No condition. -/
import Derived.Test.YtbebnjiolaomdaaT
import Derived.Test.YtbebnjiolaomdaaProg
set_option maxRecDepth 100000
set_option linter.unusedVariables false
namespace Go.Proofs.Ytbebnjiolaomdaa.T
open Go Go.Proofs.Ytbebnjiolaomdaa.Sx Go.Proofs
def o_law24_light : List (Nat × List (Nat × Df)) := []
theorem ok_law24_light : ∃ orc, (treeOf Try.prog sg (ofOrc orc) (sxDrawn Try.prog sg) 6 7 ⟨[.leaf (.row [.int .i64, .int .i64, .int .i64, .bool, .int .i64, .int .i64, .int .i64]), .leaf (.row [.int .i64]), .leaf (.row [.int .i64, .int .i64, .int .i64, .int .i64, .int .i64])], [.leaf (.bool)]⟩).same law24_light = true := ⟨orcOf o_law24_light, by kernel_rfl⟩
def o_fixed_Is : List (Nat × List (Nat × Df)) := []
theorem ok_fixed_Is : ∃ orc, (treeOf Try.prog sg (ofOrc orc) (sxDrawn Try.prog sg) 6 49 ⟨[.leaf (.int .i64)], [.leaf (.bool)]⟩).same fixed_Is = true := ⟨orcOf o_fixed_Is, by kernel_rfl⟩
def o_intrinsic_within : List (Nat × List (Nat × Df)) := []
theorem ok_intrinsic_within : ∃ orc, (treeOf Try.prog sg (ofOrc orc) (sxDrawn Try.prog sg) 6 22 ⟨[.leaf (.int .i64)], [.leaf (.bool)]⟩).same intrinsic_within = true := ⟨orcOf o_intrinsic_within, by kernel_rfl⟩
def o_intrinsic_Good_2 : List (Nat × List (Nat × Df)) := []
theorem ok_intrinsic_Good_2 : ∃ orc, (treeOf Try.prog sg (ofOrc orc) (sxDrawn Try.prog sg) 6 28 ⟨[.leaf (.int .i64)], [.leaf (.bool)]⟩).same intrinsic_Good_2 = true := ⟨orcOf o_intrinsic_Good_2, by kernel_rfl⟩
def o_base_Good_1 : List (Nat × List (Nat × Df)) := []
theorem ok_base_Good_1 : ∃ orc, (treeOf Try.prog sg (ofOrc orc) (sxDrawn Try.prog sg) 6 53 ⟨[.leaf (.int .i64), .leaf (.int .i64), .leaf (.int .i64)], [.leaf (.bool)]⟩).same base_Good_1 = true := ⟨orcOf o_base_Good_1, by kernel_rfl⟩
def o_base_Good : List (Nat × List (Nat × Df)) := [(1374705254127794739, [(1607977212184625251, ⟨8, 1, [([], [(4, (.ex (.bool) (v 7)))])], [], []⟩)])]
theorem ok_base_Good : ∃ orc, (treeOf Try.prog sg (ofOrc orc) (sxDrawn Try.prog sg) 6 27 ⟨[.agg [.int .i64, .int .i64, .int .i64, .bool, .int .i64, .int .i64, .int .i64]], [.leaf (.bool)]⟩).same base_Good = true := ⟨orcOf o_base_Good, by kernel_rfl⟩
def o_intrinsic_Good_1 : List (Nat × List (Nat × Df)) := []
theorem ok_intrinsic_Good_1 : ∃ orc, (treeOf Try.prog sg (ofOrc orc) (sxDrawn Try.prog sg) 6 26 ⟨[.agg [.int .i64, .int .i64, .int .i64, .bool, .int .i64, .int .i64, .int .i64]], [.leaf (.bool)]⟩).same intrinsic_Good_1 = true := ⟨orcOf o_intrinsic_Good_1, by kernel_rfl⟩
def o_intrinsic_Good : List (Nat × List (Nat × Df)) := [(2154897406762677233, [(1957259701249052313, ⟨6, 0, [([43], [(43, (.ex (.int .i64) (v 5)))])], [], []⟩)]),
  (254045494368177588, [(2078209590231071869, ⟨7, 1, [([], [(81, (.ex (.bool) (v 6)))])], [0], []⟩)]),
  (1534842440391379669, [(941590727560641282, ⟨5, 0, [([], [(40, (.ex (.bool) (v 4)))])], [], []⟩)]),
  (1181754389066153423, [(553430783168756698, ⟨6, 0, [([], [(4, (.ex (.int .i64) (v 5)))]), ([], []), ([38, 37], [])], [], []⟩)]),
  (1181776495493472506, [(1021197325694854797, ⟨6, 0, [([8], [(8, (.ex (.int .i64) (v 5)))]), ([], []), ([38, 37], [])], [], []⟩)]),
  (1132548800915140392, [(804200035259338794, ⟨5, 0, [([], [(4, (.ex (.int .i64) (v 4)))]), ([], []), ([33, 32, 29, 28, 25, 24, 21, 20, 19], [])], [], []⟩)]),
  (1132570907342459475, [(1637301763592951176, ⟨5, 0, [([8], [(8, (.ex (.int .i64) (v 4)))]), ([], []), ([33, 32, 29, 28, 25, 24, 21, 20, 19], [])], [], []⟩)])]
theorem ok_intrinsic_Good : ∃ orc, (treeOf Try.prog sg (ofOrc orc) (sxDrawn Try.prog sg) 6 13 ⟨[.leaf (.row [.int .i64, .int .i64, .int .i64, .bool, .int .i64, .int .i64, .int .i64]), .leaf (.row [.int .i64]), .leaf (.row [.int .i64, .int .i64, .int .i64, .int .i64, .int .i64]), .leaf (.int .i64)], [.leaf (.bool)]⟩).same intrinsic_Good = true := ⟨orcOf o_intrinsic_Good, by kernel_rfl⟩
def o_slices_Clone___api_Sizing_api_Sizing_ : List (Nat × List (Nat × Df)) := []
theorem ok_slices_Clone___api_Sizing_api_Sizing_ : ∃ orc, (treeOf Try.prog sg (ofOrc orc) (sxDrawn Try.prog sg) 6 15 ⟨[.leaf (.row [.int .i64, .int .i64, .int .i64, .bool, .int .i64, .int .i64, .int .i64])], [.own [.int .i64, .int .i64, .int .i64, .bool, .int .i64, .int .i64, .int .i64]]⟩).same slices_Clone___api_Sizing_api_Sizing_ = true := ⟨orcOf o_slices_Clone___api_Sizing_api_Sizing_, by kernel_rfl⟩
def o_intrinsic_loose : List (Nat × List (Nat × Df)) := []
theorem ok_intrinsic_loose : ∃ orc, (treeOf Try.prog sg (ofOrc orc) (sxDrawn Try.prog sg) 6 38 ⟨[.agg [.int .i64, .int .i64, .int .i64, .bool, .int .i64, .int .i64, .int .i64]], [.leaf (.bool)]⟩).same intrinsic_loose = true := ⟨orcOf o_intrinsic_loose, by kernel_rfl⟩
def o_intrinsic_limit : List (Nat × List (Nat × Df)) := []
theorem ok_intrinsic_limit : ∃ orc, (treeOf Try.prog sg (ofOrc orc) (sxDrawn Try.prog sg) 6 41 ⟨[.agg [.int .i64, .int .i64, .int .i64, .bool, .int .i64, .int .i64, .int .i64]], [.leaf (.int .i64)]⟩).same intrinsic_limit = true := ⟨orcOf o_intrinsic_limit, by kernel_rfl⟩
def o_pintrinsic_sizer_rounds_1 : List (Nat × List (Nat × Df)) := []
theorem ok_pintrinsic_sizer_rounds_1 : ∃ orc, (treeOf Try.prog sg (ofOrc orc) (sxDrawn Try.prog sg) 6 55 ⟨[.agg [.int .i64, .int .i64, .int .i64, .int .i64, .int .i64]], [.leaf (.int .i64)]⟩).same pintrinsic_sizer_rounds_1 = true := ⟨orcOf o_pintrinsic_sizer_rounds_1, by kernel_rfl⟩
end Go.Proofs.Ytbebnjiolaomdaa.T
