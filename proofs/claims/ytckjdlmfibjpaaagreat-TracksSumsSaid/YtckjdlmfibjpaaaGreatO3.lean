/- The trees that are written down are what the runner makes of the program's code (3 of 7). No condition. -/
import Derived.Test.YtckjdlmfibjpaaaGreatT
import Derived.Test.YtckjdlmfibjpaaaGreatProg
set_option maxRecDepth 100000
set_option linter.unusedVariables false
namespace Go.Proofs.YtckjdlmfibjpaaaGreat.T
open Go Go.Proofs.YtckjdlmfibjpaaaGreat.Sx Go.Proofs
def o_base_Good_1 : List (Nat × List (Nat × Df)) := []
theorem ok_base_Good_1 : ∃ orc, (treeOf Tryz.prog sg (ofOrc orc) (sxDrawn Tryz.prog sg) 6 150 ⟨[.leaf (.int .i64), .leaf (.int .i64), .leaf (.int .i64)], [.leaf (.bool)]⟩).same base_Good_1 = true := ⟨orcOf o_base_Good_1, by kernel_rfl⟩
def o_base_Good : List (Nat × List (Nat × Df)) := [(1374705254127794739, [(867732242607814729, ⟨8, 1, [([], [(4, (.ex (.bool) (v 7)))])], [], []⟩)])]
theorem ok_base_Good : ∃ orc, (treeOf Tryz.prog sg (ofOrc orc) (sxDrawn Tryz.prog sg) 6 93 ⟨[.agg [.int .i64, .int .i64, .int .i64, .bool, .int .i64, .int .i64, .int .i64]], [.leaf (.bool)]⟩).same base_Good = true := ⟨orcOf o_base_Good, by kernel_rfl⟩
def o_intrinsic_Good_1 : List (Nat × List (Nat × Df)) := []
theorem ok_intrinsic_Good_1 : ∃ orc, (treeOf Tryz.prog sg (ofOrc orc) (sxDrawn Tryz.prog sg) 6 92 ⟨[.agg [.int .i64, .int .i64, .int .i64, .bool, .int .i64, .int .i64, .int .i64]], [.leaf (.bool)]⟩).same intrinsic_Good_1 = true := ⟨orcOf o_intrinsic_Good_1, by kernel_rfl⟩
def o_intrinsic_Good : List (Nat × List (Nat × Df)) := [(2154897406762677233, [(1957259701249052313, ⟨6, 0, [([43], [(43, (.ex (.int .i64) (v 5)))])], [], []⟩)]),
  (254045494368177588, [(2078209590231071869, ⟨7, 1, [([], [(81, (.ex (.bool) (v 6)))])], [0], []⟩)]),
  (1534842440391379669, [(739772563398310286, ⟨5, 0, [([], [(40, (.ex (.bool) (v 4)))])], [], []⟩)]),
  (1181754389066153423, [(930634043700893895, ⟨6, 0, [([], [(4, (.ex (.int .i64) (v 5)))]), ([], []), ([38, 37], [])], [], []⟩)]),
  (1181776495493472506, [(264793028686550207, ⟨6, 0, [([8], [(8, (.ex (.int .i64) (v 5)))]), ([], []), ([38, 37], [])], [], []⟩)]),
  (1132548800915140392, [(1009717292913712084, ⟨5, 0, [([], [(4, (.ex (.int .i64) (v 4)))]), ([], []), ([33, 32, 29, 28, 25, 24, 21, 20, 19], [])], [], []⟩)]),
  (1132570907342459475, [(709211463706882679, ⟨5, 0, [([8], [(8, (.ex (.int .i64) (v 4)))]), ([], []), ([33, 32, 29, 28, 25, 24, 21, 20, 19], [])], [], []⟩)])]
theorem ok_intrinsic_Good : ∃ orc, (treeOf Tryz.prog sg (ofOrc orc) (sxDrawn Tryz.prog sg) 6 38 ⟨[.leaf (.row [.int .i64, .int .i64, .int .i64, .bool, .int .i64, .int .i64, .int .i64]), .leaf (.row [.int .i64]), .leaf (.row [.int .i64, .int .i64, .int .i64, .int .i64, .int .i64]), .leaf (.int .i64)], [.leaf (.bool)]⟩).same intrinsic_Good = true := ⟨orcOf o_intrinsic_Good, by kernel_rfl⟩
def o_slices_Clone___api_Sizing_api_Sizing_ : List (Nat × List (Nat × Df)) := []
theorem ok_slices_Clone___api_Sizing_api_Sizing_ : ∃ orc, (treeOf Tryz.prog sg (ofOrc orc) (sxDrawn Tryz.prog sg) 6 39 ⟨[.leaf (.row [.int .i64, .int .i64, .int .i64, .bool, .int .i64, .int .i64, .int .i64])], [.own [.int .i64, .int .i64, .int .i64, .bool, .int .i64, .int .i64, .int .i64]]⟩).same slices_Clone___api_Sizing_api_Sizing_ = true := ⟨orcOf o_slices_Clone___api_Sizing_api_Sizing_, by kernel_rfl⟩
def o_intrinsic_loose : List (Nat × List (Nat × Df)) := []
theorem ok_intrinsic_loose : ∃ orc, (treeOf Tryz.prog sg (ofOrc orc) (sxDrawn Tryz.prog sg) 6 102 ⟨[.agg [.int .i64, .int .i64, .int .i64, .bool, .int .i64, .int .i64, .int .i64]], [.leaf (.bool)]⟩).same intrinsic_loose = true := ⟨orcOf o_intrinsic_loose, by kernel_rfl⟩
def o_intrinsic_limit : List (Nat × List (Nat × Df)) := []
theorem ok_intrinsic_limit : ∃ orc, (treeOf Tryz.prog sg (ofOrc orc) (sxDrawn Tryz.prog sg) 6 105 ⟨[.agg [.int .i64, .int .i64, .int .i64, .bool, .int .i64, .int .i64, .int .i64]], [.leaf (.int .i64)]⟩).same intrinsic_limit = true := ⟨orcOf o_intrinsic_limit, by kernel_rfl⟩
def o_pintrinsic_sizer_rounds_1 : List (Nat × List (Nat × Df)) := []
theorem ok_pintrinsic_sizer_rounds_1 : ∃ orc, (treeOf Tryz.prog sg (ofOrc orc) (sxDrawn Tryz.prog sg) 6 151 ⟨[.agg [.int .i64, .int .i64, .int .i64, .int .i64, .int .i64]], [.leaf (.int .i64)]⟩).same pintrinsic_sizer_rounds_1 = true := ⟨orcOf o_pintrinsic_sizer_rounds_1, by kernel_rfl⟩
def o_intrinsic_content : List (Nat × List (Nat × Df)) := []
theorem ok_intrinsic_content : ∃ orc, (treeOf Tryz.prog sg (ofOrc orc) (sxDrawn Tryz.prog sg) 6 97 ⟨[.agg [.int .i64, .int .i64, .int .i64, .bool, .int .i64, .int .i64, .int .i64]], [.leaf (.bool)]⟩).same intrinsic_content = true := ⟨orcOf o_intrinsic_content, by kernel_rfl⟩
def o_intrinsic_Size_1 : List (Nat × List (Nat × Df)) := []
theorem ok_intrinsic_Size_1 : ∃ orc, (treeOf Tryz.prog sg (ofOrc orc) (sxDrawn Tryz.prog sg) 6 42 ⟨[.agg [.int .i64, .int .i64, .int .i64, .bool, .int .i64, .int .i64, .int .i64]], [.leaf (.bool)]⟩).same intrinsic_Size_1 = true := ⟨orcOf o_intrinsic_Size_1, by kernel_rfl⟩
def o_pintrinsic_sizer_bases_2 : List (Nat × List (Nat × Df)) := []
theorem ok_pintrinsic_sizer_bases_2 : ∃ orc, (treeOf Tryz.prog sg (ofOrc orc) (sxDrawn Tryz.prog sg) 6 107 ⟨[.agg [.int .i64, .int .i64, .int .i64, .bool, .int .i64, .int .i64, .int .i64]], [.leaf (.int .i64)]⟩).same pintrinsic_sizer_bases_2 = true := ⟨orcOf o_pintrinsic_sizer_bases_2, by kernel_rfl⟩
def o_pintrinsic_sizer_rounds_7 : List (Nat × List (Nat × Df)) := []
theorem ok_pintrinsic_sizer_rounds_7 : ∃ orc, (treeOf Tryz.prog sg (ofOrc orc) (sxDrawn Tryz.prog sg) 6 158 ⟨[.agg [.int .i64, .int .i64, .int .i64, .bool, .int .i64, .int .i64, .int .i64]], [.leaf (.bool)]⟩).same pintrinsic_sizer_rounds_7 = true := ⟨orcOf o_pintrinsic_sizer_rounds_7, by kernel_rfl⟩
end Go.Proofs.YtckjdlmfibjpaaaGreat.T
