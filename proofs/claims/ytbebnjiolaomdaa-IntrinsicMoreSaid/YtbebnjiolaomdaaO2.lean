/- The trees that are written down are what the runner makes of the program's code (2 of 4). No condition. -/
import Derived.Test.YtbebnjiolaomdaaT
import Derived.Test.YtbebnjiolaomdaaProg
set_option maxRecDepth 100000
set_option linter.unusedVariables false
namespace Go.Proofs.Ytbebnjiolaomdaa.T
open Go Go.Proofs.Ytbebnjiolaomdaa.Sx Go.Proofs
def o_base_Raise : List (Nat × List (Nat × Df)) := [(708324461810241529, [(181826103466578498, ⟨8, 2, [([], [])], [0], [(0, (.box [(.ex (.int .i64) (v 0)), (.ex (.int .i64) (v 1)), (.ex (.int .i64) (v 2)), (.ex (.bool) (v 3)), (.ex (.int .i64) (v 4)), (.ex (.int .i64) (v 5)), (.ex (.int .i64) (v 7))]))]⟩)])]
theorem ok_base_Raise : ∃ orc, (treeOf Try.prog sg (ofOrc orc) (sxDrawn Try.prog sg) 6 33 ⟨[.agg [.int .i64, .int .i64, .int .i64, .bool, .int .i64, .int .i64, .int .i64]], [.agg [.int .i64, .int .i64, .int .i64, .bool, .int .i64, .int .i64, .int .i64]]⟩).same base_Raise = true := ⟨orcOf o_base_Raise, by kernel_rfl⟩
def o_intrinsic_content : List (Nat × List (Nat × Df)) := []
theorem ok_intrinsic_content : ∃ orc, (treeOf Try.prog sg (ofOrc orc) (sxDrawn Try.prog sg) 6 32 ⟨[.agg [.int .i64, .int .i64, .int .i64, .bool, .int .i64, .int .i64, .int .i64]], [.leaf (.bool)]⟩).same intrinsic_content = true := ⟨orcOf o_intrinsic_content, by kernel_rfl⟩
def o_intrinsic_Size_1 : List (Nat × List (Nat × Df)) := []
theorem ok_intrinsic_Size_1 : ∃ orc, (treeOf Try.prog sg (ofOrc orc) (sxDrawn Try.prog sg) 6 18 ⟨[.agg [.int .i64, .int .i64, .int .i64, .bool, .int .i64, .int .i64, .int .i64]], [.leaf (.bool)]⟩).same intrinsic_Size_1 = true := ⟨orcOf o_intrinsic_Size_1, by kernel_rfl⟩
def o_pintrinsic_sizer_bases_2 : List (Nat × List (Nat × Df)) := []
theorem ok_pintrinsic_sizer_bases_2 : ∃ orc, (treeOf Try.prog sg (ofOrc orc) (sxDrawn Try.prog sg) 6 43 ⟨[.agg [.int .i64, .int .i64, .int .i64, .bool, .int .i64, .int .i64, .int .i64]], [.leaf (.int .i64)]⟩).same pintrinsic_sizer_bases_2 = true := ⟨orcOf o_pintrinsic_sizer_bases_2, by kernel_rfl⟩
def o_pintrinsic_sizer_rounds_7 : List (Nat × List (Nat × Df)) := []
theorem ok_pintrinsic_sizer_rounds_7 : ∃ orc, (treeOf Try.prog sg (ofOrc orc) (sxDrawn Try.prog sg) 6 61 ⟨[.agg [.int .i64, .int .i64, .int .i64, .bool, .int .i64, .int .i64, .int .i64]], [.leaf (.bool)]⟩).same pintrinsic_sizer_rounds_7 = true := ⟨orcOf o_pintrinsic_sizer_rounds_7, by kernel_rfl⟩
def o_spread_right : List (Nat × List (Nat × Df)) := []
theorem ok_spread_right : ∃ orc, (treeOf Try.prog sg (ofOrc orc) (sxDrawn Try.prog sg) 6 81 ⟨[.leaf (.int .i64), .leaf (.int .i64)], [.leaf (.bool)]⟩).same spread_right = true := ⟨orcOf o_spread_right, by kernel_rfl⟩
def o_spread_rooms : List (Nat × List (Nat × Df)) := [(1028547252673666862, [(1955031929076228418, ⟨2, 0, [([7], [(7, (.ex (.int .i64) (v 1)))])], [], []⟩)])]
theorem ok_spread_rooms : ∃ orc, (treeOf Try.prog sg (ofOrc orc) (sxDrawn Try.prog sg) 6 91 ⟨[.leaf (.row [.int .i64])], [.leaf (.bool)]⟩).same spread_rooms = true := ⟨orcOf o_spread_rooms, by kernel_rfl⟩
def o_spread_Up : List (Nat × List (Nat × Df)) := [(1908969656550636740, [(768901370999937930, ⟨5, 4, [([], [])], [2, 0], [(2, (.rows [.int .i64] (v 4))), (0, (.box [(.ex (.int .i64) (v 3))]))]⟩)]),
  (2246475218998757408, [(471955932163180728, ⟨8, 4, [([], [(27, (.ex (.bool) (v 5)))])], [2, 0], [(2, (.rows [.int .i64] (v 7))), (0, (.box [(.ex (.int .i64) (v 6))]))]⟩)]),
  (1662965103067605589, [(2073363766003894373, ⟨8, 4, [([], [(3, (.ex (.bool) (v 7)))]), ([25], [])], [2, 0], [(2, (.rows [.int .i64] (v 6))), (0, (.box [(.ex (.int .i64) (v 5))]))]⟩)]),
  (2089618528483376518, [(1853431372212650185, ⟨9, 4, [([7], [(7, (.ex (.int .i64) (v 7)))]), ([], [])], [2], [(2, (.rows [.int .i64] (v 8)))]⟩)]),
  (2089633266101589240, [(695552992298483781, ⟨10, 4, [([35, 7], [(35, (.ex (.int .i64) (v 7))), (7, (.ex (.int .i64) (v 8)))]), ([], [])], [2], [(2, (.rows [.int .i64] (v 9)))]⟩)]),
  (741372892134632604, [(793856354804489484, ⟨12, 4, [([7], [(7, (.ex (.int .i64) (v 10)))]), ([], [])], [2], [(2, (.rows [.int .i64] (v 11)))]⟩)]),
  (1662994578304031033, [(1919718964606081718, ⟨7, 4, [([12, 4], [(12, (.ex (.int .i64) (v 5))), (4, (.ex (.int .i64) (v 6)))]), ([25], [])], [], []⟩)]),
  (1187021526998008419, [(2274579366655569580, ⟨8, 4, [([4], [(4, (.ex (.int .i64) (v 7)))]), ([], [])], [], []⟩)]),
  (1288914690179339176, [(989972841640198993, ⟨3, 4, [([], [(19, (.ex (.bool) (v 2)))])], [], []⟩)])]
theorem ok_spread_Up : ∃ orc, (treeOf Try.prog sg (ofOrc orc) (sxDrawn Try.prog sg) 6 90 ⟨[.leaf (.int .i64), .leaf (.row [.int .i64])], [.own [.int .i64]]⟩).same spread_Up = true := ⟨orcOf o_spread_Up, by kernel_rfl⟩
def o_fixed_Split : List (Nat × List (Nat × Df)) := [(1384206266015353367, [(2251571423078644820, ⟨4, 1, [([21], [(21, (.ex (.int .i64) (v 2)))])], [0], [(0, (.rows [.int .i64] (v 3)))]⟩)]),
  (2173028751228923987, [(79742027492434095, ⟨5, 1, [([], [])], [0], [(0, (.rows [.int .i64] (v 4)))]⟩)])]
theorem ok_fixed_Split : ∃ orc, (treeOf Try.prog sg (ofOrc orc) (sxDrawn Try.prog sg) 6 83 ⟨[.leaf (.int .i64), .leaf (.int .i64)], [.own [.int .i64]]⟩).same fixed_Split = true := ⟨orcOf o_fixed_Split, by kernel_rfl⟩
def o_spread_Fill : List (Nat × List (Nat × Df)) := [(1282105183899027974, [(2162204243638609957, ⟨11, 3, [([60], [(60, (.ex (.int .i64) (v 9)))])], [0], [(0, (.rows [.int .i64] (v 10)))]⟩)]),
  (1488523983254230384, [(614928487389339054, ⟨8, 2, [([38, 8, 0], [(38, (.ex (.int .i64) (v 5))), (8, (.own 1 none)), (0, (.ex (.int .i64) (v 7)))])], [], [(1, (.rows [.int .i64] (v 6)))]⟩)]),
  (1779725826183414489, [(569338568595395106, ⟨9, 4, [([8, 0], [(8, (.own 3 none)), (0, (.ex (.int .i64) (sub (v 7) (at_ 0 (v 3) (v 5)))))])], [1], [(3, (.rows [.int .i64] (v 8)))]⟩)]),
  (868461648073826459, [(1595666802937909384, ⟨5, 1, [([], [(32, (.ex (.bool) (v 4)))])], [], []⟩)])]
theorem ok_spread_Fill : ∃ orc, (treeOf Try.prog sg (ofOrc orc) (sxDrawn Try.prog sg) 6 80 ⟨[.leaf (.int .i64), .leaf (.row [.int .i64]), .leaf (.row [.bool])], [.own [.int .i64]]⟩).same spread_Fill = true := ⟨orcOf o_spread_Fill, by kernel_rfl⟩
def o_pintrinsic_sizer_rounds_9 : List (Nat × List (Nat × Df)) := []
theorem ok_pintrinsic_sizer_rounds_9 : ∃ orc, (treeOf Try.prog sg (ofOrc orc) (sxDrawn Try.prog sg) 6 63 ⟨[.agg [.int .i64, .int .i64, .int .i64, .int .i64, .int .i64]], [.leaf (.int .i64)]⟩).same pintrinsic_sizer_rounds_9 = true := ⟨orcOf o_pintrinsic_sizer_rounds_9, by kernel_rfl⟩
def o_pintrinsic_sizer_rounds_8 : List (Nat × List (Nat × Df)) := []
theorem ok_pintrinsic_sizer_rounds_8 : ∃ orc, (treeOf Try.prog sg (ofOrc orc) (sxDrawn Try.prog sg) 6 62 ⟨[.agg [.int .i64, .int .i64, .int .i64, .bool, .int .i64, .int .i64, .int .i64]], [.leaf (.bool)]⟩).same pintrinsic_sizer_rounds_8 = true := ⟨orcOf o_pintrinsic_sizer_rounds_8, by kernel_rfl⟩
end Go.Proofs.Ytbebnjiolaomdaa.T
