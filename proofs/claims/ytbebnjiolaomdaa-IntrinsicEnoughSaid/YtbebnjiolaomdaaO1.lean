/- The trees that are written down are what the runner makes of the program's code (1 of 3). No condition. -/
import Derived.Test.YtbebnjiolaomdaaT
import Derived.Test.YtbebnjiolaomdaaProg
set_option maxRecDepth 100000
set_option linter.unusedVariables false
namespace Go.Proofs.Ytbebnjiolaomdaa.T
open Go Go.Proofs.Ytbebnjiolaomdaa.Sx Go.Proofs
def o_law24_light : List (Nat × List (Nat × Df)) := []
theorem ok_law24_light : ∃ orc, (treeOf Try.prog sg (ofOrc orc) (sxDrawn Try.prog sg) 6 7 ⟨[.leaf (.row [.int .i64, .int .i64, .int .i64, .bool, .int .i64, .int .i64, .int .i64]), .leaf (.row [.int .i64]), .leaf (.row [.int .i64, .int .i64, .int .i64, .int .i64, .int .i64])], [.leaf (.bool)]⟩).same law24_light = true := ⟨orcOf o_law24_light, by kernel_rfl⟩
def o_fixed_Is : List (Nat × List (Nat × Df)) := []
theorem ok_fixed_Is : ∃ orc, (treeOf Try.prog sg (ofOrc orc) (sxDrawn Try.prog sg) 6 49 ⟨[.leaf (.int .i64)], [.leaf (.bool)]⟩).same fixed_Is = true := ⟨orcOf o_fixed_Is, by kernel_rfl⟩
def o_intrinsic_within : List (Nat × List (Nat × Df)) := []
theorem ok_intrinsic_within : ∃ orc, (treeOf Try.prog sg (ofOrc orc) (sxDrawn Try.prog sg) 6 22 ⟨[.leaf (.int .i64)], [.leaf (.bool)]⟩).same intrinsic_within = true := ⟨orcOf o_intrinsic_within, by kernel_rfl⟩
def o_intrinsic_Good_2 : List (Nat × List (Nat × Df)) := []
theorem ok_intrinsic_Good_2 : ∃ orc, (treeOf Try.prog sg (ofOrc orc) (sxDrawn Try.prog sg) 6 28 ⟨[.leaf (.int .i64)], [.leaf (.bool)]⟩).same intrinsic_Good_2 = true := ⟨orcOf o_intrinsic_Good_2, by kernel_rfl⟩
def o_base_Good_1 : List (Nat × List (Nat × Df)) := []
theorem ok_base_Good_1 : ∃ orc, (treeOf Try.prog sg (ofOrc orc) (sxDrawn Try.prog sg) 6 53 ⟨[.leaf (.int .i64), .leaf (.int .i64), .leaf (.int .i64)], [.leaf (.bool)]⟩).same base_Good_1 = true := ⟨orcOf o_base_Good_1, by kernel_rfl⟩
def o_base_Good : List (Nat × List (Nat × Df)) := [(1374705254127794739, [(1607977212184625251, ⟨8, 1, [([], [(4, (.ex (.bool) (v 7)))])], [], []⟩)])]
theorem ok_base_Good : ∃ orc, (treeOf Try.prog sg (ofOrc orc) (sxDrawn Try.prog sg) 6 27 ⟨[.agg [.int .i64, .int .i64, .int .i64, .bool, .int .i64, .int .i64, .int .i64]], [.leaf (.bool)]⟩).same base_Good = true := ⟨orcOf o_base_Good, by kernel_rfl⟩
def o_intrinsic_Good_1 : List (Nat × List (Nat × Df)) := []
theorem ok_intrinsic_Good_1 : ∃ orc, (treeOf Try.prog sg (ofOrc orc) (sxDrawn Try.prog sg) 6 26 ⟨[.agg [.int .i64, .int .i64, .int .i64, .bool, .int .i64, .int .i64, .int .i64]], [.leaf (.bool)]⟩).same intrinsic_Good_1 = true := ⟨orcOf o_intrinsic_Good_1, by kernel_rfl⟩
def o_intrinsic_Good : List (Nat × List (Nat × Df)) := [(2154897406762677233, [(1957259701249052313, ⟨6, 0, [([43], [(43, (.ex (.int .i64) (v 5)))])], [], []⟩)]),
 (254045494368177588, [(2078209590231071869, ⟨7, 1, [([], [(81, (.ex (.bool) (v 6)))])], [0], []⟩)]),
 (1534842440391379669, [(941590727560641282, ⟨5, 0, [([], [(40, (.ex (.bool) (v 4)))])], [], []⟩)]),
 (1181754389066153423, [(553430783168756698, ⟨6, 0, [([], [(4, (.ex (.int .i64) (v 5)))]), ([], []), ([38, 37], [])], [], []⟩)]),
 (1181776495493472506, [(1021197325694854797, ⟨6, 0, [([8], [(8, (.ex (.int .i64) (v 5)))]), ([], []), ([38, 37], [])], [], []⟩)]),
 (1132548800915140392, [(804200035259338794, ⟨5, 0, [([], [(4, (.ex (.int .i64) (v 4)))]), ([], []), ([33, 32, 29, 28, 25, 24, 21, 20, 19], [])], [], []⟩)]),
 (1132570907342459475, [(1637301763592951176, ⟨5, 0, [([8], [(8, (.ex (.int .i64) (v 4)))]), ([], []), ([33, 32, 29, 28, 25, 24, 21, 20, 19], [])], [], []⟩)])]
theorem ok_intrinsic_Good : ∃ orc, (treeOf Try.prog sg (ofOrc orc) (sxDrawn Try.prog sg) 6 13 ⟨[.leaf (.row [.int .i64, .int .i64, .int .i64, .bool, .int .i64, .int .i64, .int .i64]), .leaf (.row [.int .i64]), .leaf (.row [.int .i64, .int .i64, .int .i64, .int .i64, .int .i64]), .leaf (.int .i64)], [.leaf (.bool)]⟩).same intrinsic_Good = true := ⟨orcOf o_intrinsic_Good, by kernel_rfl⟩
def o_slices_Clone___api_Sizing_api_Sizing_ : List (Nat × List (Nat × Df)) := []
theorem ok_slices_Clone___api_Sizing_api_Sizing_ : ∃ orc, (treeOf Try.prog sg (ofOrc orc) (sxDrawn Try.prog sg) 6 15 ⟨[.leaf (.row [.int .i64, .int .i64, .int .i64, .bool, .int .i64, .int .i64, .int .i64])], [.own [.int .i64, .int .i64, .int .i64, .bool, .int .i64, .int .i64, .int .i64]]⟩).same slices_Clone___api_Sizing_api_Sizing_ = true := ⟨orcOf o_slices_Clone___api_Sizing_api_Sizing_, by kernel_rfl⟩
def o_intrinsic_loose : List (Nat × List (Nat × Df)) := []
theorem ok_intrinsic_loose : ∃ orc, (treeOf Try.prog sg (ofOrc orc) (sxDrawn Try.prog sg) 6 38 ⟨[.agg [.int .i64, .int .i64, .int .i64, .bool, .int .i64, .int .i64, .int .i64]], [.leaf (.bool)]⟩).same intrinsic_loose = true := ⟨orcOf o_intrinsic_loose, by kernel_rfl⟩
def o_intrinsic_limit : List (Nat × List (Nat × Df)) := []
theorem ok_intrinsic_limit : ∃ orc, (treeOf Try.prog sg (ofOrc orc) (sxDrawn Try.prog sg) 6 41 ⟨[.agg [.int .i64, .int .i64, .int .i64, .bool, .int .i64, .int .i64, .int .i64]], [.leaf (.int .i64)]⟩).same intrinsic_limit = true := ⟨orcOf o_intrinsic_limit, by kernel_rfl⟩
def o_pintrinsic_sizer_rounds_1 : List (Nat × List (Nat × Df)) := []
theorem ok_pintrinsic_sizer_rounds_1 : ∃ orc, (treeOf Try.prog sg (ofOrc orc) (sxDrawn Try.prog sg) 6 55 ⟨[.agg [.int .i64, .int .i64, .int .i64, .int .i64, .int .i64]], [.leaf (.int .i64)]⟩).same pintrinsic_sizer_rounds_1 = true := ⟨orcOf o_pintrinsic_sizer_rounds_1, by kernel_rfl⟩
def o_base_Raise : List (Nat × List (Nat × Df)) := [(708324461810241529, [(181826103466578498, ⟨8, 2, [([], [])], [0], [(0, (.box [(.ex (.int .i64) (v 0)), (.ex (.int .i64) (v 1)), (.ex (.int .i64) (v 2)), (.ex (.bool) (v 3)), (.ex (.int .i64) (v 4)), (.ex (.int .i64) (v 5)), (.ex (.int .i64) (v 7))]))]⟩)])]
theorem ok_base_Raise : ∃ orc, (treeOf Try.prog sg (ofOrc orc) (sxDrawn Try.prog sg) 6 33 ⟨[.agg [.int .i64, .int .i64, .int .i64, .bool, .int .i64, .int .i64, .int .i64]], [.agg [.int .i64, .int .i64, .int .i64, .bool, .int .i64, .int .i64, .int .i64]]⟩).same base_Raise = true := ⟨orcOf o_base_Raise, by kernel_rfl⟩
def o_intrinsic_content : List (Nat × List (Nat × Df)) := []
theorem ok_intrinsic_content : ∃ orc, (treeOf Try.prog sg (ofOrc orc) (sxDrawn Try.prog sg) 6 32 ⟨[.agg [.int .i64, .int .i64, .int .i64, .bool, .int .i64, .int .i64, .int .i64]], [.leaf (.bool)]⟩).same intrinsic_content = true := ⟨orcOf o_intrinsic_content, by kernel_rfl⟩
def o_intrinsic_Size_1 : List (Nat × List (Nat × Df)) := []
theorem ok_intrinsic_Size_1 : ∃ orc, (treeOf Try.prog sg (ofOrc orc) (sxDrawn Try.prog sg) 6 18 ⟨[.agg [.int .i64, .int .i64, .int .i64, .bool, .int .i64, .int .i64, .int .i64]], [.leaf (.bool)]⟩).same intrinsic_Size_1 = true := ⟨orcOf o_intrinsic_Size_1, by kernel_rfl⟩
def o_pintrinsic_sizer_bases_2 : List (Nat × List (Nat × Df)) := []
theorem ok_pintrinsic_sizer_bases_2 : ∃ orc, (treeOf Try.prog sg (ofOrc orc) (sxDrawn Try.prog sg) 6 43 ⟨[.agg [.int .i64, .int .i64, .int .i64, .bool, .int .i64, .int .i64, .int .i64]], [.leaf (.int .i64)]⟩).same pintrinsic_sizer_bases_2 = true := ⟨orcOf o_pintrinsic_sizer_bases_2, by kernel_rfl⟩
def o_pintrinsic_sizer_rounds_7 : List (Nat × List (Nat × Df)) := []
theorem ok_pintrinsic_sizer_rounds_7 : ∃ orc, (treeOf Try.prog sg (ofOrc orc) (sxDrawn Try.prog sg) 6 61 ⟨[.agg [.int .i64, .int .i64, .int .i64, .bool, .int .i64, .int .i64, .int .i64]], [.leaf (.bool)]⟩).same pintrinsic_sizer_rounds_7 = true := ⟨orcOf o_pintrinsic_sizer_rounds_7, by kernel_rfl⟩
def o_spread_right : List (Nat × List (Nat × Df)) := []
theorem ok_spread_right : ∃ orc, (treeOf Try.prog sg (ofOrc orc) (sxDrawn Try.prog sg) 6 81 ⟨[.leaf (.int .i64), .leaf (.int .i64)], [.leaf (.bool)]⟩).same spread_right = true := ⟨orcOf o_spread_right, by kernel_rfl⟩
def o_spread_rooms : List (Nat × List (Nat × Df)) := [(1028547252673666862, [(1955031929076228418, ⟨2, 0, [([7], [(7, (.ex (.int .i64) (v 1)))])], [], []⟩)])]
theorem ok_spread_rooms : ∃ orc, (treeOf Try.prog sg (ofOrc orc) (sxDrawn Try.prog sg) 6 91 ⟨[.leaf (.row [.int .i64])], [.leaf (.bool)]⟩).same spread_rooms = true := ⟨orcOf o_spread_rooms, by kernel_rfl⟩
def o_spread_Up : List (Nat × List (Nat × Df)) := [(1908969656550636740, [(768901370999937930, ⟨5, 4, [([], [])], [2, 0], [(2, (.rows [.int .i64] (v 4))), (0, (.box [(.ex (.int .i64) (v 3))]))]⟩)]),
 (2246475218998757408, [(471955932163180728, ⟨8, 4, [([], [(27, (.ex (.bool) (v 5)))])], [2, 0], [(2, (.rows [.int .i64] (v 7))), (0, (.box [(.ex (.int .i64) (v 6))]))]⟩)]),
 (1662965103067605589, [(2073363766003894373, ⟨8, 4, [([], [(3, (.ex (.bool) (v 7)))]), ([25], [])], [2, 0], [(2, (.rows [.int .i64] (v 6))), (0, (.box [(.ex (.int .i64) (v 5))]))]⟩)]),
 (2089618528483376518, [(1853431372212650185, ⟨9, 4, [([7], [(7, (.ex (.int .i64) (v 7)))]), ([], [])], [2], [(2, (.rows [.int .i64] (v 8)))]⟩)]),
 (2089633266101589240, [(695552992298483781, ⟨10, 4, [([35, 7], [(35, (.ex (.int .i64) (v 7))), (7, (.ex (.int .i64) (v 8)))]), ([], [])], [2], [(2, (.rows [.int .i64] (v 9)))]⟩)]),
 (741372892134632604, [(793856354804489484, ⟨12, 4, [([7], [(7, (.ex (.int .i64) (v 10)))]), ([], [])], [2], [(2, (.rows [.int .i64] (v 11)))]⟩)]),
 (1662994578304031033, [(1919718964606081718, ⟨7, 4, [([12, 4], [(12, (.ex (.int .i64) (v 5))), (4, (.ex (.int .i64) (v 6)))]), ([25], [])], [], []⟩)]),
 (1187021526998008419, [(2274579366655569580, ⟨8, 4, [([4], [(4, (.ex (.int .i64) (v 7)))]), ([], [])], [], []⟩)]),
 (1288914690179339176, [(989972841640198993, ⟨3, 4, [([], [(19, (.ex (.bool) (v 2)))])], [], []⟩)])]
theorem ok_spread_Up : ∃ orc, (treeOf Try.prog sg (ofOrc orc) (sxDrawn Try.prog sg) 6 90 ⟨[.leaf (.int .i64), .leaf (.row [.int .i64])], [.own [.int .i64]]⟩).same spread_Up = true := ⟨orcOf o_spread_Up, by kernel_rfl⟩
end Go.Proofs.Ytbebnjiolaomdaa.T
